/- What the statement SealCounts does, step by step. -/
import Derived.Test.YtlckhaodecdbbaaL5b
set_option linter.unusedVariables false
set_option linter.unusedSimpArgs false
namespace Go.Cx
/-- A block beside a sealed one of the number n: one of the number before, or nothing. -/
structure Beside (n : Nat) (b : Blk) : Prop where
  beg : ∃ ws, Begun (n - 2) ws b ∧ (∀ w ∈ ws, w.1 = n - 1) ∧ (b = zblk ∧ ws = [] ∨ b ∈ ws.map swB)
theorem beside_z {n : Nat} (h : n - 2 ≤ 1152921504606846976) : Beside n zblk := ⟨[], begun_nil h, by simp, .inl ⟨rfl, rfl⟩⟩
theorem beside_one {n : Nat} (h2 : 2 ≤ n) (h : n - 2 ≤ 1152921504606846976) {c : Blk} (hc : c.length ≤ 108) : Beside n (sealB (n - 1) c) := by
  have hB := begun_torn (begun_nil h) (n - 1, c) ⟨by dsimp only; omega, by dsimp only; omega, hc⟩ (by simp) 128
  have e : torn zblk (swB (n - 1, c)) 128 = sealB (n - 1) c := by
    have : (swB (n - 1, c)).length = 128 := sealB_WB hc
    unfold torn
    rw [List.take_of_length_le (by omega), List.drop_of_length_le (by simp [zblk]), List.append_nil]; rfl
  rw [e] at hB
  exact ⟨_, hB, by simp, .inr (by simp [swB])⟩
theorem beside_get {n : Nat} (h2 : 2 ≤ n) {b : Blk} (h : Beside n b) : (getM b).1 < n ∧ WB b := by
  obtain ⟨ws, hB, hn, hz⟩ := h.beg
  refine ⟨?_, hB.wb⟩
  rcases hz with ⟨rfl, _⟩ | hm
  · rw [getM_z]; dsimp only; omega
  · obtain ⟨w, hw, rfl⟩ := List.mem_map.1 hm
    have h1 := hn w hw
    have h3 := hB.num w hw
    have h4 := hB.base
    rw [swB, get_sealB (by omega) (by simp only [top]; omega) h3.2.2]
    dsimp only; omega
/-- The beginning of a block of the next number over one that is beside: it counts just if it is there as a whole. -/
theorem beside_torn {n : Nat} (h2 : 2 ≤ n) (hn : n ≤ 1152921504606846977) {b c : Blk} (h : Beside n b) (hc : c.length ≤ 108) (k : Nat) :
    WB (torn b (sealB (n + 1) c) k) ∧ ((torn b (sealB (n + 1) c) k = sealB (n + 1) c ∧ (getM (torn b (sealB (n + 1) c) k)).1 = n + 1) ∨ (torn b (sealB (n + 1) c) k ≠ sealB (n + 1) c ∧ (getM (torn b (sealB (n + 1) c) k)).1 < n)) := by
  obtain ⟨ws, hB, hw, hz⟩ := h.beg
  have hT := begun_torn hB (n + 1, c) ⟨by dsimp only; omega, by dsimp only; omega, hc⟩ (fun u hu => by have := hw u hu; dsimp only; omega) k
  have es : swB (n + 1, c) = sealB (n + 1) c := rfl
  rw [es] at hT
  refine ⟨hT.wb, ?_⟩
  have hg := get_sealB (n := n + 1) (b := c) (by omega) (by simp only [top]; omega) hc
  by_cases e : torn b (sealB (n + 1) c) k = sealB (n + 1) c
  · left; refine ⟨e, ?_⟩; rw [e, hg]
  · right
    refine ⟨e, ?_⟩
    by_cases hv : Valid (torn b (sealB (n + 1) c) k)
    · have hm := begun_valid hT hv
      rw [List.map_append, List.mem_append] at hm
      rcases hm with hm | hm
      · obtain ⟨w, hw1, hw2⟩ := List.mem_map.1 hm
        have q1 := hw w hw1
        have q2 := hB.num w hw1
        rw [← hw2, swB, get_sealB (by omega) (by simp only [top]; omega) q2.2.2]
        dsimp only; omega
      · simp only [List.map_cons, List.map_nil, List.mem_singleton] at hm
        exact absurd hm e
    · rw [(get_bad hv).1]; omega
theorem putM_len {n : Nat} {b : Blk} (h0 : n ≠ 0) : ((putM n b).2 = 0 ∧ putM n b = (sealB n b, 0) ∧ b.length ≤ 108) ∨ (putM n b = (zblk, 3)) := by
  unfold putM
  rw [if_neg h0]
  by_cases h : 108 < b.length
  · right; rw [if_pos h]
  · left; rw [if_neg h]; exact ⟨rfl, rfl, by omega⟩
theorem two_at0 {L L' : List Assn} {q t : Nat} {X Y : Blk} (p : Pick (bk q t (cb X ++ cb Y)) L L') : CellsAt L q (0 + 0 * 128) (cb X) := CellsAt.pick p (by simp)
theorem two_at1 {L L' : List Assn} {q t : Nat} {X Y : Blk} (p : Pick (bk q t (cb X ++ cb Y)) L L') (w : WB X) : CellsAt L q (0 + 1 * 128) (cb Y) := CellsAt.pick p (by
  have : (cb X).length = 128 := w.len
  rw [List.drop_append, List.drop_of_length_le (by omega), this, Nat.zero_add, Nat.one_mul, Nat.sub_self, List.drop_zero, List.nil_append, List.take_length])
theorem two_set0 {X Y Z : Blk} (w : WB X) (z : WB Z) : setL (cb X ++ cb Y) (0 + 0 * 128) (cb Z) = cb Z ++ cb Y := by
  have h1 : (cb X).length = 128 := w.len
  have h2 : (cb Z).length = 128 := z.len
  simp only [setL, Nat.zero_mul, Nat.zero_add, List.take_zero, List.nil_append, h2]
  rw [List.drop_append, List.drop_of_length_le (by omega), h1]; simp
theorem two_set1 {X Y Z : Blk} (w : WB X) (y : WB Y) (z : WB Z) : setL (cb X ++ cb Y) (0 + 1 * 128) (cb Z) = cb X ++ cb Z := by
  have h1 : (cb X).length = 128 := w.len
  have h2 : (cb Z).length = 128 := z.len
  have h3 : (cb Y).length = 128 := y.len
  simp only [setL, Nat.one_mul, Nat.zero_add, h2]
  rw [List.drop_of_length_le (by rw [List.length_append]; omega), List.append_nil, List.take_append_of_le_length (by omega), List.take_of_length_le (by omega)]
theorem two_z : (List.replicate 256 (Value.int .u8 0)) = cb zblk ++ cb zblk := by rw [cb_z, List.replicate_append_replicate]
theorem putM_ok0 {n : Nat} {b : Blk} (h0 : n ≠ 0) (h : (putM n b).2 = 0) : (putM n b).1 = sealB n b ∧ b.length ≤ 108 := by
  rcases putM_len (b := b) h0 with ⟨_, h1, hl⟩ | h1
  · rw [h1]; exact ⟨rfl, hl⟩
  · rw [h1] at h; simp at h
theorem putM_wb {n : Nat} {b : Blk} (h0 : n ≠ 0) : WB (putM n b).1 := by
  rcases putM_len (b := b) h0 with ⟨_, h, hl⟩ | h
  · rw [h]; exact sealB_WB hl
  · rw [h]; exact WB_z
end Go.Cx
namespace Go.Proofs.Ytlckhaodecdbbaa
open Go.Cx
attribute [local irreducible] Go.Cx.CX Go.Cx.CC Go.Cx.CQ Go.Cx.PS Go.Cx.Ctr Go.Cx.CH
set_option maxRecDepth 10000
/-- Behind the three blocks. -/
theorem counts5_c (m : Nat) (hm : m ≤ top) (o : Bool) (A B C : Blk) (hA : A.length ≤ 9223372036854775807) (hB : B.length ≤ 9223372036854775807) (hC : C.length ≤ 9223372036854775807) (a b c : Option Addr) (ca cb' cc : Nat) (z : Int) :
    Ctr Try.prog 8 [.int .u64 (m : Int), .bool o, .slice a A.length ca, .slice b B.length cb', .slice c C.length cc, .int .i64 z] []
      (fun x => rdx a A.length (cb A) x ∧ rdx b B.length (cb B) x ∧ rdx c C.length (cb C) x) (fun v M => v = .bool true ∧ M = []) := by
  generalize hn : m % 1152921504606846976 + 2 = n
  have hn1 : 2 ≤ n := by omega
  have hn2 : n ≤ 1152921504606846977 := by omega
  have e2 : m % 1152921504606846976 = n - 2 := by omega
  refine Ctr.intro Try.func8 rfl Try.ntmps8 rfl fun x w hp => ?_
  obtain ⟨hp1, hp2, hp3⟩ := hp
  repeat (first | refine CX.psA ?_ | refine CX.nil ?_ | refine CQ.thenN ?_ | refine CQ.thenR ?_ | refine CQ.thenX ?_ | refine CQ.blockN ?_ | refine CQ.blockR ?_ | refine CQ.blockX ?_ | refine CQ.blockYA ?_ | refine CC.seq ?_ | refine CC.block ?_ | refine CC.region ?_ | refine CC.skip ?_ | refine CC.ret ?_ | refine CC.exit ?_ | refine CC.condTA ?_ | refine CC.condFA ?_ | refine CC.condDTA ?_ | refine CC.condDFA ?_ | refine CX.storeA ?_ | refine CX.skipA ?_)
  refine CX.ps (PS.remN (k := .u64) m 1152921504606846976 (by decide) rfl rfl rfl) ?_
  rw [e2]
  repeat (first | refine CX.psA ?_ | refine CX.nil ?_ | refine CQ.thenN ?_ | refine CQ.thenR ?_ | refine CQ.thenX ?_ | refine CQ.blockN ?_ | refine CQ.blockR ?_ | refine CQ.blockX ?_ | refine CQ.blockYA ?_ | refine CC.seq ?_ | refine CC.block ?_ | refine CC.region ?_ | refine CC.skip ?_ | refine CC.ret ?_ | refine CC.exit ?_ | refine CC.condTA ?_ | refine CC.condFA ?_ | refine CC.condDTA ?_ | refine CC.condDFA ?_ | refine CX.storeA ?_ | refine CX.skipA ?_)
  refine CX.allocZ (cb zblk ++ cb zblk) ?_ (hv := by simp [Value.cells, ← two_z])
  intro tw
  have n1 : ((n - 2 : Nat) : Int) + 2 = (n : Int) := by omega
  rw [n1]
  repeat (first | refine CX.psA ?_ | refine CX.nil ?_ | refine CQ.thenN ?_ | refine CQ.thenR ?_ | refine CQ.thenX ?_ | refine CQ.blockN ?_ | refine CQ.blockR ?_ | refine CQ.blockX ?_ | refine CQ.blockYA ?_ | refine CC.seq ?_ | refine CC.block ?_ | refine CC.region ?_ | refine CC.skip ?_ | refine CC.ret ?_ | refine CC.exit ?_ | refine CC.condTA ?_ | refine CC.condFA ?_ | refine CC.condDTA ?_ | refine CC.condDFA ?_ | refine CX.storeA ?_ | refine CX.skipA ?_)
  refine CX.callA (sput_c n (by simp only [top]; omega) A hA a ca) ?_ (hpre := by exact rdx_ex (by repeat (first | exact .head _ | apply Pick.tail | apply Upd.tail)) hp1)
  rintro _ _ ⟨rfl, rfl⟩
  have wA := putM_wb (n := n) (b := A) (by omega)
  have pA := putM_len (n := n) (b := A) (by omega)
  repeat (first | refine CX.psA ?_ | refine CX.nil ?_ | refine CQ.thenN ?_ | refine CQ.thenR ?_ | refine CQ.thenX ?_ | refine CQ.blockN ?_ | refine CQ.blockR ?_ | refine CQ.blockX ?_ | refine CQ.blockYA ?_ | refine CC.seq ?_ | refine CC.block ?_ | refine CC.region ?_ | refine CC.skip ?_ | refine CC.ret ?_ | refine CC.exit ?_ | refine CC.condTA ?_ | refine CC.condFA ?_ | refine CC.condDTA ?_ | refine CC.condDFA ?_ | refine CX.storeA ?_ | refine CX.skipA ?_)
  (refine CX.allocZ (cb zblk) ?_; intro s)
  repeat (first | refine CX.psA ?_ | refine CX.nil ?_ | refine CQ.thenN ?_ | refine CQ.thenR ?_ | refine CQ.thenX ?_ | refine CQ.blockN ?_ | refine CQ.blockR ?_ | refine CQ.blockX ?_ | refine CQ.blockYA ?_ | refine CC.seq ?_ | refine CC.block ?_ | refine CC.region ?_ | refine CC.skip ?_ | refine CC.ret ?_ | refine CC.exit ?_ | refine CC.condTA ?_ | refine CC.condFA ?_ | refine CC.condDTA ?_ | refine CC.condDFA ?_ | refine CX.storeA ?_ | refine CX.skipA ?_)
  (apply CX.storeAll; (· rfl); (· rfl); (· rfl); (· repeat (first | exact .head _ | apply Pick.tail | apply Upd.tail)); (· exact wA.len); (· exact WB_z.len); (· exact one_cb _))
  repeat (first | refine CX.psA ?_ | refine CX.nil ?_ | refine CQ.thenN ?_ | refine CQ.thenR ?_ | refine CQ.thenX ?_ | refine CQ.blockN ?_ | refine CQ.blockR ?_ | refine CQ.blockX ?_ | refine CQ.blockYA ?_ | refine CC.seq ?_ | refine CC.block ?_ | refine CC.region ?_ | refine CC.skip ?_ | refine CC.ret ?_ | refine CC.exit ?_ | refine CC.condTA ?_ | refine CC.condFA ?_ | refine CC.condDTA ?_ | refine CC.condDFA ?_ | refine CX.storeA ?_ | refine CX.skipA ?_)
  ((apply CX.ps; (· apply PS.loadG (vs := cb ((putM n A).1)); (· rfl); (· rfl); (· exact CellsAt.all (by repeat (first | exact .head _ | apply Pick.tail | apply Upd.tail))); (· exact wA.len))))
  refine CX.ps (PS.indexArr (j := 0) rfl rfl rfl rfl (by omega)) ?_
  apply CX.storeC (v := .agg (cb (putM n A).1).toArray) (cs := cb zblk ++ cb zblk)
  · rfl
  · rfl
  · rfl
  · show (cb _).toArray.size = 128
    rw [List.size_toArray]; exact wA.len
  · simpa [Value.cells] using one_cb _
  · repeat (first | exact .head _ | apply Pick.tail | apply Upd.tail)
  · simp [zblk]
  rw [show (Value.agg (cb (putM n A).1).toArray).cells.toList = cb (putM n A).1 from rfl, two_set0 WB_z wA]
  repeat (first | refine CX.psA ?_ | refine CX.nil ?_ | refine CQ.thenN ?_ | refine CQ.thenR ?_ | refine CQ.thenX ?_ | refine CQ.blockN ?_ | refine CQ.blockR ?_ | refine CQ.blockX ?_ | refine CQ.blockYA ?_ | refine CC.seq ?_ | refine CC.block ?_ | refine CC.region ?_ | refine CC.skip ?_ | refine CC.ret ?_ | refine CC.exit ?_ | refine CC.condTA ?_ | refine CC.condFA ?_ | refine CC.condDTA ?_ | refine CC.condDFA ?_ | refine CX.storeA ?_ | refine CX.skipA ?_)
  generalize hXA : (putM n A).1 = XA at *
  generalize heA : (putM n A).2 = eA at *
  refine CC.join (X := Blk × Int) (fun q => [(16, .int .i64 q.2), (0, .int .u64 (n : Int)), (15, .int .i64 eA), (13, .pointer (some ⟨tw, 0, none⟩)), (14, .pointer (some ⟨s, 0, none⟩)), (4, .slice c C.length cc), (5, .int .i64 z)])
    (fun q => [bk tw 49 (cb XA ++ cb q.1), bk s 29 (cb XA), exact x]) (fun q => WB q.1 ∧ (q.2 = 0 → Beside n q.1)) ?_ ?_
  · cases o
    · repeat (first | refine CX.psA ?_ | refine CX.nil ?_ | refine CQ.thenN ?_ | refine CQ.thenR ?_ | refine CQ.thenX ?_ | refine CQ.blockN ?_ | refine CQ.blockR ?_ | refine CQ.blockX ?_ | refine CQ.blockYA ?_ | refine CC.seq ?_ | refine CC.block ?_ | refine CC.region ?_ | refine CC.skip ?_ | refine CC.ret ?_ | refine CC.exit ?_ | refine CC.condTA ?_ | refine CC.condFA ?_ | refine CC.condDTA ?_ | refine CC.condDFA ?_ | refine CX.storeA ?_ | refine CX.skipA ?_)
      exact CQ.joined (zblk, 0) ⟨WB_z, fun _ => beside_z (by omega)⟩ ⟨rfl, rfl, rfl, rfl, rfl, rfl, rfl, trivial⟩ (by repeat (first | exact Sel.nil _ | (apply Sel.cons; (· repeat (first | exact .head _ | apply Pick.tail | apply Upd.tail)))))
    · have wB := putM_wb (n := n - 1) (b := B) (by omega)
      have pB := putM_len (n := n - 1) (b := B) (by omega)
      have n2 : (n : Int) - 1 = ((n - 1 : Nat) : Int) := by omega
      repeat (first | refine CX.psA ?_ | refine CX.nil ?_ | refine CQ.thenN ?_ | refine CQ.thenR ?_ | refine CQ.thenX ?_ | refine CQ.blockN ?_ | refine CQ.blockR ?_ | refine CQ.blockX ?_ | refine CQ.blockYA ?_ | refine CC.seq ?_ | refine CC.block ?_ | refine CC.region ?_ | refine CC.skip ?_ | refine CC.ret ?_ | refine CC.exit ?_ | refine CC.condTA ?_ | refine CC.condFA ?_ | refine CC.condDTA ?_ | refine CC.condDFA ?_ | refine CX.storeA ?_ | refine CX.skipA ?_)
      rw [n2]
      repeat (first | refine CX.psA ?_ | refine CX.nil ?_ | refine CQ.thenN ?_ | refine CQ.thenR ?_ | refine CQ.thenX ?_ | refine CQ.blockN ?_ | refine CQ.blockR ?_ | refine CQ.blockX ?_ | refine CQ.blockYA ?_ | refine CC.seq ?_ | refine CC.block ?_ | refine CC.region ?_ | refine CC.skip ?_ | refine CC.ret ?_ | refine CC.exit ?_ | refine CC.condTA ?_ | refine CC.condFA ?_ | refine CC.condDTA ?_ | refine CC.condDFA ?_ | refine CX.storeA ?_ | refine CX.skipA ?_)
      refine CX.callA (sput_c (n - 1) (by simp only [top]; omega) B hB b cb') ?_ (hpre := by exact rdx_ex (by repeat (first | exact .head _ | apply Pick.tail | apply Upd.tail)) hp2)
      rintro _ _ ⟨rfl, rfl⟩
      repeat (first | refine CX.psA ?_ | refine CX.nil ?_ | refine CQ.thenN ?_ | refine CQ.thenR ?_ | refine CQ.thenX ?_ | refine CQ.blockN ?_ | refine CQ.blockR ?_ | refine CQ.blockX ?_ | refine CQ.blockYA ?_ | refine CC.seq ?_ | refine CC.block ?_ | refine CC.region ?_ | refine CC.skip ?_ | refine CC.ret ?_ | refine CC.exit ?_ | refine CC.condTA ?_ | refine CC.condFA ?_ | refine CC.condDTA ?_ | refine CC.condDFA ?_ | refine CX.storeA ?_ | refine CX.skipA ?_)
      refine CX.ps (PS.indexArr (j := 1) rfl rfl rfl rfl (by omega)) ?_
      apply CX.storeC (v := .agg (cb (putM (n - 1) B).1).toArray) (cs := cb XA ++ cb zblk)
      · rfl
      · rfl
      · rfl
      · show (cb _).toArray.size = 128
        rw [List.size_toArray]; exact wB.len
      · simpa [Value.cells] using one_cb _
      · repeat (first | exact .head _ | apply Pick.tail | apply Upd.tail)
      · have := wA.len; have := WB_z.len; simp at *; omega
      rw [show (Value.agg (cb (putM (n - 1) B).1).toArray).cells.toList = cb (putM (n - 1) B).1 from rfl, two_set1 wA WB_z wB]
      repeat (first | refine CX.psA ?_ | refine CX.nil ?_ | refine CQ.thenN ?_ | refine CQ.thenR ?_ | refine CQ.thenX ?_ | refine CQ.blockN ?_ | refine CQ.blockR ?_ | refine CQ.blockX ?_ | refine CQ.blockYA ?_ | refine CC.seq ?_ | refine CC.block ?_ | refine CC.region ?_ | refine CC.skip ?_ | refine CC.ret ?_ | refine CC.exit ?_ | refine CC.condTA ?_ | refine CC.condFA ?_ | refine CC.condDTA ?_ | refine CC.condDFA ?_ | refine CX.storeA ?_ | refine CX.skipA ?_)
      refine CQ.joined ((putM (n - 1) B).1, (putM (n - 1) B).2) ⟨wB, fun h => ?_⟩ ⟨rfl, rfl, rfl, rfl, rfl, rfl, rfl, trivial⟩ (by repeat (first | exact Sel.nil _ | (apply Sel.cons; (· repeat (first | exact .head _ | apply Pick.tail | apply Upd.tail)))))
      rcases pB with ⟨_, h3, h4⟩ | h3
      · rw [h3]; exact beside_one hn1 (by omega) h4
      · rw [h3] at h; simp at h
  rintro ⟨X1, eB⟩ ⟨w1, hb⟩
  dsimp only at w1 hb ⊢
  have wC := putM_wb (n := n + 1) (b := C) (by omega)
  have pC := putM_len (n := n + 1) (b := C) (by omega)
  have n3 : (n : Int) + 1 = ((n + 1 : Nat) : Int) := by omega
  repeat (first | refine CX.psA ?_ | refine CX.nil ?_ | refine CQ.thenN ?_ | refine CQ.thenR ?_ | refine CQ.thenX ?_ | refine CQ.blockN ?_ | refine CQ.blockR ?_ | refine CQ.blockX ?_ | refine CQ.blockYA ?_ | refine CC.seq ?_ | refine CC.block ?_ | refine CC.region ?_ | refine CC.skip ?_ | refine CC.ret ?_ | refine CC.exit ?_ | refine CC.condTA ?_ | refine CC.condFA ?_ | refine CC.condDTA ?_ | refine CC.condDFA ?_ | refine CX.storeA ?_ | refine CX.skipA ?_)
  rw [n3]
  repeat (first | refine CX.psA ?_ | refine CX.nil ?_ | refine CQ.thenN ?_ | refine CQ.thenR ?_ | refine CQ.thenX ?_ | refine CQ.blockN ?_ | refine CQ.blockR ?_ | refine CQ.blockX ?_ | refine CQ.blockYA ?_ | refine CC.seq ?_ | refine CC.block ?_ | refine CC.region ?_ | refine CC.skip ?_ | refine CC.ret ?_ | refine CC.exit ?_ | refine CC.condTA ?_ | refine CC.condFA ?_ | refine CC.condDTA ?_ | refine CC.condDFA ?_ | refine CX.storeA ?_ | refine CX.skipA ?_)
  refine CX.callA (sput_c (n + 1) (by simp only [top]; omega) C hC c cc) ?_ (hpre := by exact rdx_ex (by repeat (first | exact .head _ | apply Pick.tail | apply Upd.tail)) hp3)
  rintro _ _ ⟨rfl, rfl⟩
  repeat (first | refine CX.psA ?_ | refine CX.nil ?_ | refine CQ.thenN ?_ | refine CQ.thenR ?_ | refine CQ.thenX ?_ | refine CQ.blockN ?_ | refine CQ.blockR ?_ | refine CQ.blockX ?_ | refine CQ.blockYA ?_ | refine CC.seq ?_ | refine CC.block ?_ | refine CC.region ?_ | refine CC.skip ?_ | refine CC.ret ?_ | refine CC.exit ?_ | refine CC.condTA ?_ | refine CC.condFA ?_ | refine CC.condDTA ?_ | refine CC.condDFA ?_ | refine CX.storeA ?_ | refine CX.skipA ?_)
  (refine CX.allocZ (cb zblk) ?_; intro s2)
  repeat (first | refine CX.psA ?_ | refine CX.nil ?_ | refine CQ.thenN ?_ | refine CQ.thenR ?_ | refine CQ.thenX ?_ | refine CQ.blockN ?_ | refine CQ.blockR ?_ | refine CQ.blockX ?_ | refine CQ.blockYA ?_ | refine CC.seq ?_ | refine CC.block ?_ | refine CC.region ?_ | refine CC.skip ?_ | refine CC.ret ?_ | refine CC.exit ?_ | refine CC.condTA ?_ | refine CC.condFA ?_ | refine CC.condDTA ?_ | refine CC.condDFA ?_ | refine CX.storeA ?_ | refine CX.skipA ?_)
  (apply CX.storeAll; (· rfl); (· rfl); (· rfl); (· repeat (first | exact .head _ | apply Pick.tail | apply Upd.tail)); (· exact wC.len); (· exact WB_z.len); (· exact one_cb _))
  generalize hXC : (putM (n + 1) C).1 = XC at *
  generalize heC : (putM (n + 1) C).2 = eC at *
  by_cases h1 : eA = 0
  · by_cases h2 : eB = 0
    · by_cases h3 : eC = 0
      · obtain ⟨oA, lA⟩ := putM_ok0 (n := n) (b := A) (by omega) (by rw [heA]; exact h1)
        obtain ⟨oC, lC⟩ := putM_ok0 (n := n + 1) (b := C) (by omega) (by rw [heC]; exact h3)
        rw [hXA] at oA
        rw [hXC] at oC
        have gA := get_sealB (n := n) (b := A) (by omega) (by simp only [top]; omega) lA
        rw [← oA] at gA
        have bX := hb h2
        obtain ⟨g1, -⟩ := beside_get hn1 bX
        have hT := fun k => beside_torn hn1 hn2 bX lC k
        rw [← oC] at hT
        have x1 : nextM XA X1 = 1 := by unfold nextM; rw [gA]; dsimp only; rw [if_neg (by omega), if_neg (by omega)]
        have x2 : nextM X1 XA = 0 := by unfold nextM; rw [gA]; dsimp only; rw [if_neg (by omega), if_pos (by omega)]
        clear oA oC hXA hXC heA heC pA pC hb
        repeat (first | refine CX.psA ?_ | refine CX.nil ?_ | refine CQ.thenN ?_ | refine CQ.thenR ?_ | refine CQ.thenX ?_ | refine CQ.blockN ?_ | refine CQ.blockR ?_ | refine CQ.blockX ?_ | refine CQ.blockYA ?_ | refine CC.seq ?_ | refine CC.block ?_ | refine CC.region ?_ | refine CC.skip ?_ | refine CC.ret ?_ | refine CC.exit ?_ | refine CC.condTA ?_ | refine CC.condFA ?_ | refine CC.condDTA ?_ | refine CC.condDFA ?_ | refine CX.storeA ?_ | refine CX.skipA ?_)
        refine CX.ps (PS.indexArr (j := 0) rfl rfl rfl rfl (by omega)) ?_
        (apply CX.ps; (· apply PS.loadG (vs := cb XA); (· rfl); (· rfl); (· exact two_at0 (by repeat (first | exact .head _ | apply Pick.tail | apply Upd.tail))); (· exact wA.len)))
        refine CX.ps (PS.indexArr (j := 1) rfl rfl rfl rfl (by omega)) ?_
        (apply CX.ps; (· apply PS.loadG (vs := cb X1); (· rfl); (· rfl); (· exact two_at1 (by repeat (first | exact .head _ | apply Pick.tail | apply Upd.tail)) wA); (· exact w1.len)))
        (have cc := snext_c XA X1 wA w1; simp only [x1] at cc; refine CX.callA cc ?_; clear cc; rintro _ _ ⟨rfl, rfl⟩)
        repeat (first | refine CX.psA ?_ | refine CX.nil ?_ | refine CQ.thenN ?_ | refine CQ.thenR ?_ | refine CQ.thenX ?_ | refine CQ.blockN ?_ | refine CQ.blockR ?_ | refine CQ.blockX ?_ | refine CQ.blockYA ?_ | refine CC.seq ?_ | refine CC.block ?_ | refine CC.region ?_ | refine CC.skip ?_ | refine CC.ret ?_ | refine CC.exit ?_ | refine CC.condTA ?_ | refine CC.condFA ?_ | refine CC.condDTA ?_ | refine CC.condDFA ?_ | refine CX.storeA ?_ | refine CX.skipA ?_)
        refine CX.ps (PS.indexArr (j := 1) rfl rfl rfl rfl (by omega)) ?_
        (apply CX.ps; (· apply PS.loadG (vs := cb X1); (· rfl); (· rfl); (· exact two_at1 (by repeat (first | exact .head _ | apply Pick.tail | apply Upd.tail)) wA); (· exact w1.len)))
        refine CX.ps (PS.indexArr (j := 0) rfl rfl rfl rfl (by omega)) ?_
        (apply CX.ps; (· apply PS.loadG (vs := cb XA); (· rfl); (· rfl); (· exact two_at0 (by repeat (first | exact .head _ | apply Pick.tail | apply Upd.tail))); (· exact wA.len)))
        (have cc := snext_c X1 XA w1 wA; simp only [x2] at cc; refine CX.callA cc ?_; clear cc; rintro _ _ ⟨rfl, rfl⟩)
        repeat (first | refine CX.psA ?_ | refine CX.nil ?_ | refine CQ.thenN ?_ | refine CQ.thenR ?_ | refine CQ.thenX ?_ | refine CQ.blockN ?_ | refine CQ.blockR ?_ | refine CQ.blockX ?_ | refine CQ.blockYA ?_ | refine CC.seq ?_ | refine CC.block ?_ | refine CC.region ?_ | refine CC.skip ?_ | refine CC.ret ?_ | refine CC.exit ?_ | refine CC.condTA ?_ | refine CC.condFA ?_ | refine CC.condDTA ?_ | refine CC.condDFA ?_ | refine CX.storeA ?_ | refine CX.skipA ?_)
        refine CC.draw [(0, 0), (1, 0), (2, 0), (3, 1), (4, 1), (5, 0), (6, 3), (7, 0), (8, 3)] mixed rfl (by kernel_rfl) (by kernel_rfl) [bk tw 49 (cb XA ++ cb X1), bk s2 29 (cb XC)] ?_
        repeat (first | refine CH.pureA ?_ | refine CH.readA ?_ | refine CH.skA ?_ | refine CH.skCA ?_ | refine CH.nil ?_)
        (apply CH.pure; (· rfl); (· apply PS.indexArr (j := 1); (· rfl); (· rfl); (· rfl); (· rfl); (· omega)))
        (apply CH.read; (· rfl); (· apply PS.loadG (vs := cb X1); (· rfl); (· rfl); (· exact two_at1 (by repeat (first | exact .head _ | apply Pick.tail | apply Upd.tail)) wA); (· exact w1.len)); (· repeat (first | exact Sel.nil _ | (apply Sel.cons; (· repeat (first | exact .head _ | apply Pick.tail | apply Upd.tail))))))
        (apply CH.read; (· rfl); (· apply PS.loadG (vs := cb XC); (· rfl); (· rfl); (· exact CellsAt.all (by repeat (first | exact .head _ | apply Pick.tail | apply Upd.tail))); (· exact wC.len)); (· repeat (first | exact Sel.nil _ | (apply Sel.cons; (· repeat (first | exact .head _ | apply Pick.tail | apply Upd.tail))))))
        repeat (first | refine CH.pureA ?_ | refine CH.readA ?_ | refine CH.skA ?_ | refine CH.skCA ?_ | refine CH.nil ?_)
        refine CH.tail rfl rfl fun K hK => ?_
        refine CX.callA (torn_c X1 XC w1 wC z) ?_
        rintro _ _ ⟨rfl, rfl⟩
        have hT := hT (min (max z 0) 128).toNat
        generalize torn X1 XC (min (max z 0) 128).toNat = T at hT
        obtain ⟨wT, hT⟩ := hT
        (refine CX.nil ?_; refine CQ.thenK ?_; apply hK; clear hK K)
        (apply CH.pure; (· rfl); (· apply PS.indexArr (j := 1); (· rfl); (· rfl); (· rfl); (· rfl); (· omega)))
        refine CH.tail rfl rfl fun K hK => ?_
        apply CX.storeC (v := .agg (cb T).toArray) (cs := cb XA ++ cb X1)
        · rfl
        · rfl
        · rfl
        · show (cb _).toArray.size = 128
          rw [List.size_toArray]; exact wT.len
        · simpa [Value.cells] using one_cb _
        · repeat (first | exact .head _ | apply Pick.tail | apply Upd.tail)
        · have := wA.len; have := w1.len; simp at *; omega
        rw [show (Value.agg (cb T).toArray).cells.toList = cb T from rfl, two_set1 wA w1 wT]
        (refine CX.nil ?_; refine CQ.thenK ?_; apply hK; clear hK K)
        repeat (first | refine CH.pureA ?_ | refine CH.readA ?_ | refine CH.skA ?_ | refine CH.skCA ?_ | refine CH.nil ?_)
        repeat (first | refine CX.psA ?_ | refine CX.nil ?_ | refine CQ.thenN ?_ | refine CQ.thenR ?_ | refine CQ.thenX ?_ | refine CQ.blockN ?_ | refine CQ.blockR ?_ | refine CQ.blockX ?_ | refine CQ.blockYA ?_ | refine CC.seq ?_ | refine CC.block ?_ | refine CC.region ?_ | refine CC.skip ?_ | refine CC.ret ?_ | refine CC.exit ?_ | refine CC.condTA ?_ | refine CC.condFA ?_ | refine CC.condDTA ?_ | refine CC.condDFA ?_ | refine CX.storeA ?_ | refine CX.skipA ?_)
        refine CX.ps (PS.indexArr (j := 0) rfl rfl rfl rfl (by omega)) ?_
        (apply CX.ps; (· apply PS.loadG (vs := cb XA); (· rfl); (· rfl); (· exact two_at0 (by repeat (first | exact .head _ | apply Pick.tail | apply Upd.tail))); (· exact wA.len)))
        refine CX.ps (PS.indexArr (j := 1) rfl rfl rfl rfl (by omega)) ?_
        (apply CX.ps; (· apply PS.loadG (vs := cb T); (· rfl); (· rfl); (· exact two_at1 (by repeat (first | exact .head _ | apply Pick.tail | apply Upd.tail)) wA); (· exact wT.len)))
        rcases hT with ⟨h5, h6⟩ | ⟨h5, h6⟩
        · have x3 : newestM XA T = (1, 0) := by unfold newestM; rw [gA]; dsimp only; rw [if_neg (by omega), if_pos (by omega)]
          (have cc := snewest_c XA T wA wT; simp only [x3] at cc; refine CX.callA cc ?_; clear cc; rintro _ _ ⟨rfl, rfl⟩)
          repeat (first | refine CX.psA ?_ | refine CX.nil ?_ | refine CQ.thenN ?_ | refine CQ.thenR ?_ | refine CQ.thenX ?_ | refine CQ.blockN ?_ | refine CQ.blockR ?_ | refine CQ.blockX ?_ | refine CQ.blockYA ?_ | refine CC.seq ?_ | refine CC.block ?_ | refine CC.region ?_ | refine CC.skip ?_ | refine CC.ret ?_ | refine CC.exit ?_ | refine CC.condTA ?_ | refine CC.condFA ?_ | refine CC.condDTA ?_ | refine CC.condDFA ?_ | refine CX.storeA ?_ | refine CX.skipA ?_)
          refine CX.ps (PS.indexArr (j := 1) rfl rfl rfl rfl (by omega)) ?_
          (apply CX.ps; (· apply PS.loadG (vs := cb T); (· rfl); (· rfl); (· exact two_at1 (by repeat (first | exact .head _ | apply Pick.tail | apply Upd.tail)) wA); (· exact wT.len)))
          ((apply CX.ps; (· apply PS.loadG (vs := cb (XC)); (· rfl); (· rfl); (· exact CellsAt.all (by repeat (first | exact .head _ | apply Pick.tail | apply Upd.tail))); (· exact wC.len))))
          (apply CX.ps; (· refine PS.toT (PS.eqlB (a := T) (b := XC) ?_ ?_ ?_ ?_ ?_) ?_; (· rfl); (· rfl); (· rfl); (· exact wT); (· exact wC); (· exact h5)))
          (refine CX.ps (PS.eqlBool true ?_ Try.underlying4 rfl rfl rfl) ?_; (· rfl))
          repeat (first | refine CX.psA ?_ | refine CX.nil ?_ | refine CQ.thenN ?_ | refine CQ.thenR ?_ | refine CQ.thenX ?_ | refine CQ.blockN ?_ | refine CQ.blockR ?_ | refine CQ.blockX ?_ | refine CQ.blockYA ?_ | refine CC.seq ?_ | refine CC.block ?_ | refine CC.region ?_ | refine CC.skip ?_ | refine CC.ret ?_ | refine CC.exit ?_ | refine CC.condTA ?_ | refine CC.condFA ?_ | refine CC.condDTA ?_ | refine CC.condDFA ?_ | refine CX.storeA ?_ | refine CX.skipA ?_)
          refine CX.ps (PS.indexArr (j := 0) rfl rfl rfl rfl (by omega)) ?_
          (apply CX.ps; (· apply PS.loadG (vs := cb XA); (· rfl); (· rfl); (· exact two_at0 (by repeat (first | exact .head _ | apply Pick.tail | apply Upd.tail))); (· exact wA.len)))
          ((apply CX.ps; (· apply PS.loadG (vs := cb (XA)); (· rfl); (· rfl); (· exact CellsAt.all (by repeat (first | exact .head _ | apply Pick.tail | apply Upd.tail))); (· exact wA.len))))
          (apply CX.ps; (· refine PS.toT (PS.eqlB (a := XA) (b := XA) ?_ ?_ ?_ ?_ ?_) ?_; (· rfl); (· rfl); (· rfl); (· exact wA); (· exact wA); (· rfl)))
          repeat (first | refine CX.psA ?_ | refine CX.nil ?_ | refine CQ.thenN ?_ | refine CQ.thenR ?_ | refine CQ.thenX ?_ | refine CQ.blockN ?_ | refine CQ.blockR ?_ | refine CQ.blockX ?_ | refine CQ.blockYA ?_ | refine CC.seq ?_ | refine CC.block ?_ | refine CC.region ?_ | refine CC.skip ?_ | refine CC.ret ?_ | refine CC.exit ?_ | refine CC.condTA ?_ | refine CC.condFA ?_ | refine CC.condDTA ?_ | refine CC.condDFA ?_ | refine CX.storeA ?_ | refine CX.skipA ?_)
          refine CX.callA (lives5_c) ?_
          rintro _ _ ⟨rfl, rfl⟩
          repeat (first | refine CX.psA ?_ | refine CX.nil ?_ | refine CQ.thenN ?_ | refine CQ.thenR ?_ | refine CQ.thenX ?_ | refine CQ.blockN ?_ | refine CQ.blockR ?_ | refine CQ.blockX ?_ | refine CQ.blockYA ?_ | refine CC.seq ?_ | refine CC.block ?_ | refine CC.region ?_ | refine CC.skip ?_ | refine CC.ret ?_ | refine CC.exit ?_ | refine CC.condTA ?_ | refine CC.condFA ?_ | refine CC.condDTA ?_ | refine CC.condDFA ?_ | refine CX.storeA ?_ | refine CX.skipA ?_)
          ((apply CQ.end1; (· rfl); (· exact .tmp rfl)); (· exact ⟨rfl, rfl⟩); (· repeat (first | exact Sel.nil _ | (apply Sel.cons; (· repeat (first | exact .head _ | apply Pick.tail | apply Upd.tail))))))
        · have x3 : newestM XA T = (0, 0) := by unfold newestM; rw [gA]; dsimp only; rw [if_neg (by omega), if_neg (by omega)]
          (have cc := snewest_c XA T wA wT; simp only [x3] at cc; refine CX.callA cc ?_; clear cc; rintro _ _ ⟨rfl, rfl⟩)
          repeat (first | refine CX.psA ?_ | refine CX.nil ?_ | refine CQ.thenN ?_ | refine CQ.thenR ?_ | refine CQ.thenX ?_ | refine CQ.blockN ?_ | refine CQ.blockR ?_ | refine CQ.blockX ?_ | refine CQ.blockYA ?_ | refine CC.seq ?_ | refine CC.block ?_ | refine CC.region ?_ | refine CC.skip ?_ | refine CC.ret ?_ | refine CC.exit ?_ | refine CC.condTA ?_ | refine CC.condFA ?_ | refine CC.condDTA ?_ | refine CC.condDFA ?_ | refine CX.storeA ?_ | refine CX.skipA ?_)
          refine CX.ps (PS.indexArr (j := 1) rfl rfl rfl rfl (by omega)) ?_
          (apply CX.ps; (· apply PS.loadG (vs := cb T); (· rfl); (· rfl); (· exact two_at1 (by repeat (first | exact .head _ | apply Pick.tail | apply Upd.tail)) wA); (· exact wT.len)))
          ((apply CX.ps; (· apply PS.loadG (vs := cb (XC)); (· rfl); (· rfl); (· exact CellsAt.all (by repeat (first | exact .head _ | apply Pick.tail | apply Upd.tail))); (· exact wC.len))))
          (apply CX.ps; (· refine PS.toF (PS.eqlB (a := T) (b := XC) ?_ ?_ ?_ ?_ ?_) ?_; (· rfl); (· rfl); (· rfl); (· exact wT); (· exact wC); (· exact h5)))
          (refine CX.ps (PS.eqlBool true ?_ Try.underlying4 rfl rfl rfl) ?_; (· rfl))
          repeat (first | refine CX.psA ?_ | refine CX.nil ?_ | refine CQ.thenN ?_ | refine CQ.thenR ?_ | refine CQ.thenX ?_ | refine CQ.blockN ?_ | refine CQ.blockR ?_ | refine CQ.blockX ?_ | refine CQ.blockYA ?_ | refine CC.seq ?_ | refine CC.block ?_ | refine CC.region ?_ | refine CC.skip ?_ | refine CC.ret ?_ | refine CC.exit ?_ | refine CC.condTA ?_ | refine CC.condFA ?_ | refine CC.condDTA ?_ | refine CC.condDFA ?_ | refine CX.storeA ?_ | refine CX.skipA ?_)
          refine CX.ps (PS.indexArr (j := 0) rfl rfl rfl rfl (by omega)) ?_
          (apply CX.ps; (· apply PS.loadG (vs := cb XA); (· rfl); (· rfl); (· exact two_at0 (by repeat (first | exact .head _ | apply Pick.tail | apply Upd.tail))); (· exact wA.len)))
          ((apply CX.ps; (· apply PS.loadG (vs := cb (XA)); (· rfl); (· rfl); (· exact CellsAt.all (by repeat (first | exact .head _ | apply Pick.tail | apply Upd.tail))); (· exact wA.len))))
          (apply CX.ps; (· refine PS.toT (PS.eqlB (a := XA) (b := XA) ?_ ?_ ?_ ?_ ?_) ?_; (· rfl); (· rfl); (· rfl); (· exact wA); (· exact wA); (· rfl)))
          repeat (first | refine CX.psA ?_ | refine CX.nil ?_ | refine CQ.thenN ?_ | refine CQ.thenR ?_ | refine CQ.thenX ?_ | refine CQ.blockN ?_ | refine CQ.blockR ?_ | refine CQ.blockX ?_ | refine CQ.blockYA ?_ | refine CC.seq ?_ | refine CC.block ?_ | refine CC.region ?_ | refine CC.skip ?_ | refine CC.ret ?_ | refine CC.exit ?_ | refine CC.condTA ?_ | refine CC.condFA ?_ | refine CC.condDTA ?_ | refine CC.condDFA ?_ | refine CX.storeA ?_ | refine CX.skipA ?_)
          refine CX.callA (lives5_c) ?_
          rintro _ _ ⟨rfl, rfl⟩
          repeat (first | refine CX.psA ?_ | refine CX.nil ?_ | refine CQ.thenN ?_ | refine CQ.thenR ?_ | refine CQ.thenX ?_ | refine CQ.blockN ?_ | refine CQ.blockR ?_ | refine CQ.blockX ?_ | refine CQ.blockYA ?_ | refine CC.seq ?_ | refine CC.block ?_ | refine CC.region ?_ | refine CC.skip ?_ | refine CC.ret ?_ | refine CC.exit ?_ | refine CC.condTA ?_ | refine CC.condFA ?_ | refine CC.condDTA ?_ | refine CC.condDFA ?_ | refine CX.storeA ?_ | refine CX.skipA ?_)
          ((apply CQ.end1; (· rfl); (· exact .tmp rfl)); (· exact ⟨rfl, rfl⟩); (· repeat (first | exact Sel.nil _ | (apply Sel.cons; (· repeat (first | exact .head _ | apply Pick.tail | apply Upd.tail))))))
      · repeat (first | refine CX.psA ?_ | refine CX.nil ?_ | refine CQ.thenN ?_ | refine CQ.thenR ?_ | refine CQ.thenX ?_ | refine CQ.blockN ?_ | refine CQ.blockR ?_ | refine CQ.blockX ?_ | refine CQ.blockYA ?_ | refine CC.seq ?_ | refine CC.block ?_ | refine CC.region ?_ | refine CC.skip ?_ | refine CC.ret ?_ | refine CC.exit ?_ | refine CC.condTA ?_ | refine CC.condFA ?_ | refine CC.condDTA ?_ | refine CC.condDFA ?_ | refine CX.storeA ?_ | refine CX.skipA ?_)
        refine CX.callA (lives5_c) ?_
        rintro _ _ ⟨rfl, rfl⟩
        repeat (first | refine CX.psA ?_ | refine CX.nil ?_ | refine CQ.thenN ?_ | refine CQ.thenR ?_ | refine CQ.thenX ?_ | refine CQ.blockN ?_ | refine CQ.blockR ?_ | refine CQ.blockX ?_ | refine CQ.blockYA ?_ | refine CC.seq ?_ | refine CC.block ?_ | refine CC.region ?_ | refine CC.skip ?_ | refine CC.ret ?_ | refine CC.exit ?_ | refine CC.condTA ?_ | refine CC.condFA ?_ | refine CC.condDTA ?_ | refine CC.condDFA ?_ | refine CX.storeA ?_ | refine CX.skipA ?_)
        ((apply CQ.end1; (· rfl); (· exact .tmp rfl)); (· exact ⟨rfl, rfl⟩); (· repeat (first | exact Sel.nil _ | (apply Sel.cons; (· repeat (first | exact .head _ | apply Pick.tail | apply Upd.tail))))))
    · repeat (first | refine CX.psA ?_ | refine CX.nil ?_ | refine CQ.thenN ?_ | refine CQ.thenR ?_ | refine CQ.thenX ?_ | refine CQ.blockN ?_ | refine CQ.blockR ?_ | refine CQ.blockX ?_ | refine CQ.blockYA ?_ | refine CC.seq ?_ | refine CC.block ?_ | refine CC.region ?_ | refine CC.skip ?_ | refine CC.ret ?_ | refine CC.exit ?_ | refine CC.condTA ?_ | refine CC.condFA ?_ | refine CC.condDTA ?_ | refine CC.condDFA ?_ | refine CX.storeA ?_ | refine CX.skipA ?_)
      refine CX.callA (lives5_c) ?_
      rintro _ _ ⟨rfl, rfl⟩
      repeat (first | refine CX.psA ?_ | refine CX.nil ?_ | refine CQ.thenN ?_ | refine CQ.thenR ?_ | refine CQ.thenX ?_ | refine CQ.blockN ?_ | refine CQ.blockR ?_ | refine CQ.blockX ?_ | refine CQ.blockYA ?_ | refine CC.seq ?_ | refine CC.block ?_ | refine CC.region ?_ | refine CC.skip ?_ | refine CC.ret ?_ | refine CC.exit ?_ | refine CC.condTA ?_ | refine CC.condFA ?_ | refine CC.condDTA ?_ | refine CC.condDFA ?_ | refine CX.storeA ?_ | refine CX.skipA ?_)
      ((apply CQ.end1; (· rfl); (· exact .tmp rfl)); (· exact ⟨rfl, rfl⟩); (· repeat (first | exact Sel.nil _ | (apply Sel.cons; (· repeat (first | exact .head _ | apply Pick.tail | apply Upd.tail))))))
  · repeat (first | refine CX.psA ?_ | refine CX.nil ?_ | refine CQ.thenN ?_ | refine CQ.thenR ?_ | refine CQ.thenX ?_ | refine CQ.blockN ?_ | refine CQ.blockR ?_ | refine CQ.blockX ?_ | refine CQ.blockYA ?_ | refine CC.seq ?_ | refine CC.block ?_ | refine CC.region ?_ | refine CC.skip ?_ | refine CC.ret ?_ | refine CC.exit ?_ | refine CC.condTA ?_ | refine CC.condFA ?_ | refine CC.condDTA ?_ | refine CC.condDFA ?_ | refine CX.storeA ?_ | refine CX.skipA ?_)
    refine CX.callA (lives5_c) ?_
    rintro _ _ ⟨rfl, rfl⟩
    repeat (first | refine CX.psA ?_ | refine CX.nil ?_ | refine CQ.thenN ?_ | refine CQ.thenR ?_ | refine CQ.thenX ?_ | refine CQ.blockN ?_ | refine CQ.blockR ?_ | refine CQ.blockX ?_ | refine CQ.blockYA ?_ | refine CC.seq ?_ | refine CC.block ?_ | refine CC.region ?_ | refine CC.skip ?_ | refine CC.ret ?_ | refine CC.exit ?_ | refine CC.condTA ?_ | refine CC.condFA ?_ | refine CC.condDTA ?_ | refine CC.condDFA ?_ | refine CX.storeA ?_ | refine CX.skipA ?_)
    ((apply CQ.end1; (· rfl); (· exact .tmp rfl)); (· exact ⟨rfl, rfl⟩); (· repeat (first | exact Sel.nil _ | (apply Sel.cons; (· repeat (first | exact .head _ | apply Pick.tail | apply Upd.tail))))))
end Go.Proofs.Ytlckhaodecdbbaa
