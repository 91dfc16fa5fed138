/- Part K5: Jq, Jr, Sp, Jc, Cp, Sg, Hd, Hg, Dk, Dr, L4, L4b, L4c. -/
import Derived.Test.YtlckhaodecdbbaaGreatDoorK4
import Derived.Test.YtlckhaodecdbbaaGreatDoorK2
import Derived.Laws.StructEq
set_option linter.unusedVariables false
set_option linter.unusedSimpArgs false
/-! The journal in plain Lean: what is laid, wherever the power is cut. No program in sight. -/
namespace Go.Cx
theorem settleL_ne (picks : List Int) (o k : Nat) : ∀ (l : List (Nat × Blk)) (S : List Blk) (i : Nat), (∀ p ∈ l, p.1 ≠ k) → (settleL S picks o i l).getD k [] = S.getD k []
  | [], _, _, _ => rfl
  | p :: l, S, i, h => by
    simp only [settleL]
    rw [settleL_ne picks o k l _ _ (fun q hq => h q (by simp [hq]))]
    simp [List.getD, List.getElem?_set_ne (h p (by simp))]
theorem JSt.settled {S : List Blk} {J : JM} {bs : List Blk} (h : JSt S J bs) {l : List (Nat × Blk)} (hl : ∀ p ∈ l, ¬ Live S J p.1 ∧ p.1 < S.length ∧ WB p.2) (picks : List Int) (o i : Nat) : JSt (settleL S picks o i l) J bs :=
  h.congr (length_settleL _ _ _ _ _) (settleL_WB _ _ _ _ _ h.wb fun p hp => ⟨(hl p hp).2.1, (hl p hp).2.2⟩) fun k hk => settleL_ne picks o k l S i fun p hp e => (hl p hp).1 (by rw [e]; exact hk)
/-- The writes of blocks from one on. -/
def putsAt (at_ : Nat) (l : List Blk) : List (Nat × Blk) := (List.range l.length).map fun i => (at_ + i, l.getD i [])
theorem torn128 {a b : Blk} (ha : WB a) (hb : WB b) : torn a b 128 = b := by
  unfold torn; rw [List.take_of_length_le (by rw [hb]; omega), List.drop_of_length_le (by rw [ha]; omega)]; simp
theorem settle_puts (S : List Blk) (at_ : Nat) (l : List Blk) (hS : ∀ b ∈ S, WB b) (hl : ∀ b ∈ l, WB b) (hat : at_ + l.length ≤ S.length) (k : Nat) : ∀ (m : Nat), m ≤ l.length →
    (settleL S [] 128 0 ((List.range m).map fun i => (at_ + i, l.getD i []))).getD k [] = if at_ ≤ k ∧ k < at_ + m then l.getD (k - at_) [] else S.getD k []
  | 0, _ => by rw [if_neg (by omega)]; rfl
  | m + 1, hm => by
    have ih := settle_puts S at_ l hS hl hat k m (by omega)
    have hw := settleL_WB [] 128 ((List.range m).map fun i => (at_ + i, l.getD i [])) S 0 hS (fun p hp => by
      simp only [List.mem_map, List.mem_range] at hp
      obtain ⟨i, hi, rfl⟩ := hp
      exact ⟨by dsimp only; omega, getD_WB hl (by omega)⟩)
    have hlen := length_settleL [] 128 ((List.range m).map fun i => (at_ + i, l.getD i [])) S 0
    rw [List.range_succ, List.map_append, List.map_cons, List.map_nil, settleL_snoc]
    simp only [pickAt, List.getElem?_nil]
    rw [torn128 (getD_WB hw (by omega)) (getD_WB hl (by omega))]
    by_cases e : k = at_ + m
    · subst e
      rw [if_pos (by omega), Nat.add_sub_cancel_left]
      have : at_ + m < (settleL S [] 128 0 ((List.range m).map fun i => (at_ + i, l.getD i []))).length := by omega
      rw [List.getD_eq_getElem?_getD, List.getElem?_set_self this]; rfl
    · have : ∀ (T : List Blk) (x : Blk), (T.set (at_ + m) x).getD k [] = T.getD k [] := fun T x => by simp [List.getD, List.getElem?_set_ne (Ne.symm e)]
      rw [this, ih]
      by_cases h1 : at_ ≤ k ∧ k < at_ + m
      · rw [if_pos h1, if_pos (by omega)]
      · rw [if_neg h1, if_neg (by omega)]
/-- What laying asks, and comes to. -/
structure LayOk (S : List Blk) (J : JM) (at_ : Nat) (l : List Blk) (h : HdM) (bs : List Blk) : Prop where
  wl : ∀ b ∈ l, WB b
  hi : at_ + l.length ≤ S.length
  free : ∀ k, at_ ≤ k → k < at_ + l.length → ¬ Live S J k
  n2 : J.n ≤ 59
  may : h.may
  blocks : h.blocks = (Cut bs).length
  batches : h.batches = bs.length
  room : h.blocks ≤ bankS S
  sz : ∀ b ∈ bs, b.length ≤ 1048576
  cnt : ∀ i, i < h.blocks → (if at_ ≤ firstS S h.bank + i ∧ firstS S h.bank + i < at_ + l.length then l.getD (firstS S h.bank + i - at_) [] else S.getD (firstS S h.bank + i) []) = (Cut bs).getD i []
/-- What is known behind steps that may be cut. -/
def CutTo (picks0 : Prop) (S : List Blk) (J : JM) (bs : List Blk) (J' : JM) (bs' : List Blk) (D : DS) : Prop :=
  D.dark = true ∧ ∀ picks, D.sure.length = S.length ∧ (JSt (settleL D.sure picks 0 0 D.loose) J bs ∨ JSt (settleL D.sure picks 0 0 D.loose) J' bs')
theorem step_two (D : DS) : (D.left ≠ 0 ∧ D.step = (9, { D with dark := true })) ∨ (D.step = (0, { D with left := max (D.left - 1) 0, steps := D.steps + 1 })) := by
  unfold DS.step
  by_cases h : D.left = 1
  · rw [if_pos h]; exact .inl ⟨by omega, rfl⟩
  · rw [if_neg h]; exact .inr rfl
structure Wrote (S : List Blk) (at_ : Nat) (l : List Blk) (i : Nat) (D0 D : DS) : Prop where
  lit : D.dark = false
  sure : D.sure = S
  loose : D.loose = (List.range i).map fun j => (at_ + j, l.getD j [])
  left : D0.left = 0 → D.left = 0
theorem run_writes {S : List Blk} {at_ : Nat} {l : List Blk} (hi : at_ + l.length ≤ S.length) (D0 : DS) (rest : List (DS → Int × DS)) : ∀ (m i : Nat) (D : DS), i + m = l.length → Wrote S at_ l i D0 D →
    (∃ D', Wrote S at_ l l.length D0 D' ∧ runM (((List.range' i m).map fun (j : Nat) (D : DS) => D.write ((at_ : Int) + (j : Int)) (l.getD j [])) ++ rest) D = runM rest D') ∨
    (∃ D' k, k ≤ l.length ∧ D0.left ≠ 0 ∧ D'.dark = true ∧ D'.sure = S ∧ D'.loose = ((List.range k).map fun j => (at_ + j, l.getD j [])) ∧ runM (((List.range' i m).map fun (j : Nat) (D : DS) => D.write ((at_ : Int) + (j : Int)) (l.getD j [])) ++ rest) D = (9, D'))
  | 0, i, D, h, w => .inl ⟨D, by rw [Nat.add_zero] at h; rw [← h]; exact w, by simp⟩
  | m + 1, i, D, h, w => by
    have hlit : D.lit ((at_ : Int) + (i : Int)) = 0 := by
      unfold DS.lit DS.there errOf
      rw [w.lit, if_neg (by simp), if_pos (by rw [w.sure]; omega)]
    rw [List.range'_succ, List.map_cons, List.cons_append, runM]
    rcases step_two D with ⟨h1, h2⟩ | h2
    · right
      have e : D.write ((at_ : Int) + (i : Int)) (l.getD i []) = (9, { D with dark := true }) := by
        unfold DS.write; rw [hlit, h2]; simp
      refine ⟨{ D with dark := true }, i, by omega, fun h0 => h1 (w.left h0), rfl, w.sure, w.loose, ?_⟩
      rw [e]; simp
    · have e : D.write ((at_ : Int) + (i : Int)) (l.getD i []) = (0, { D with left := max (D.left - 1) 0, steps := D.steps + 1, loose := D.loose ++ [(at_ + i, l.getD i [])] }) := by
        unfold DS.write; rw [hlit, h2]; simp
        omega
      rw [e]
      simp only [ne_eq, not_true_eq_false, if_false]
      exact run_writes hi D0 rest m (i + 1) _ (by omega) ⟨w.lit, w.sure, by simp [w.loose, List.range_succ], fun h0 => by have := w.left h0; dsimp only; omega⟩
theorem live_lt {S : List Blk} {J : JM} {bs : List Blk} (h : JSt S J bs) {k : Nat} (hk : 2 ≤ k) : ¬ k < 2 := by omega
/-- A head is written over the slot that counts less. -/
theorem head_new {S : List Blk} {J : JM} {bs : List Blk} {h : HdM} {bs' : List Blk} {s : Nat} (j : JSt S J bs) (hs : s < 2) (h1 : S.getD s [] = (putH J.n J.h).1) (h2 : Slot J.n (S.getD (1 - s) [])) (n2 : J.n ≤ 59)
    (may : h.may) (blocks : h.blocks = (Cut bs').length) (batches : h.batches = bs'.length) (room : h.blocks ≤ bankS S) (sz : ∀ b ∈ bs', b.length ≤ 1048576)
    (cnt : ∀ i, i < h.blocks → S.getD (firstS S h.bank + i) [] = (Cut bs').getD i []) {n : Nat} (hn : n ≤ 128) :
    (JSt (S.set (1 - s) (torn (S.getD (1 - s) []) (putH (J.n + 1) h).1 n)) J bs ∨ JSt (S.set (1 - s) (torn (S.getD (1 - s) []) (putH (J.n + 1) h).1 n)) ⟨J.n + 1, h⟩ bs') ∧
    (n = 128 → JSt (S.set (1 - s) (torn (S.getD (1 - s) []) (putH (J.n + 1) h).1 n)) ⟨J.n + 1, h⟩ bs') := by
  have hp := putH_ok (n := J.n + 1) (h := h) (by omega) (by omega) may
  have hp0 := putH_ok (n := J.n) (h := J.h) j.n1 j.n2 j.may
  have lo := j.lo
  have hb9 : h.bytes.length ≤ 108 := by rw [bytes_len]; omega
  rw [hp]
  dsimp only
  have key := slot_torn (m := J.n + 1) h2 (by omega) hb9 hn
  have wl : ∀ X, WB X → ∀ b ∈ S.set (1 - s) X, WB b := fun X hX b hb => by
    rcases List.mem_or_eq_of_mem_set hb with hb | rfl
    · exact j.wb b hb
    · exact hX
  have g1 : ∀ X, (S.set (1 - s) X).getD (1 - s) [] = X := fun X => by simp [List.getD, List.getElem?_set_self (show 1 - s < S.length by omega)]
  have g2 : ∀ X k, k ≠ 1 - s → (S.set (1 - s) X).getD k [] = S.getD k [] := fun X k hk => by simp [List.getD, List.getElem?_set_ne (Ne.symm hk)]
  have hbk : ∀ X, bankS (S.set (1 - s) X) = bankS S := fun X => by unfold bankS; rw [List.length_set]
  have hfs : ∀ X b, firstS (S.set (1 - s) X) b = firstS S b := fun X b => by unfold firstS; rw [hbk]
  have f2 : ∀ b, 2 ≤ firstS S b := fun b => by unfold firstS; omega
  have old : ∀ X, Slot J.n X → JSt (S.set (1 - s) X) J bs := fun X hX => by
    refine ⟨by rw [List.length_set]; exact j.lo, by rw [List.length_set]; exact j.hi, wl X hX.wb, j.n1, j.n2, j.may, j.blocks, j.batches, by rw [hbk]; exact j.room, j.sz, fun i hi => ?_, s, hs, ?_, ?_⟩
    · rw [hfs, g2 _ _ (by have := f2 J.h.bank; omega)]; exact j.cnt i hi
    · rw [g2 _ _ (by omega)]; exact h1
    · rw [g1]; exact hX
  have new : JSt (S.set (1 - s) (sealB (J.n + 1) h.bytes)) ⟨J.n + 1, h⟩ bs' := by
    refine ⟨by rw [List.length_set]; exact j.lo, by rw [List.length_set]; exact j.hi, wl _ (sealB_WB hb9), by dsimp only; omega, by dsimp only; omega, may, blocks, batches, by rw [hbk]; exact room, sz, fun i hi => ?_, 1 - s, by omega, ?_, ?_⟩
    · dsimp only at hi ⊢
      rw [hfs, g2 _ _ (by have := f2 h.bank; omega)]; exact cnt i hi
    · rw [g1, hp]
    · dsimp only
      rw [show 1 - (1 - s) = s by omega, g2 _ _ (by omega), h1, hp0]
      exact slot_seal (by omega) j.n2 (by rw [bytes_len]; omega)
  have hfull : n = 128 → torn (S.getD (1 - s) []) (sealB (J.n + 1) h.bytes) n = sealB (J.n + 1) h.bytes := fun e => by subst e; exact torn128 h2.wb (sealB_WB hb9)
  refine ⟨?_, fun e => by rw [hfull e]; exact new⟩
  rcases key with e | e
  · rw [e]; exact .inr new
  · exact .inl (old _ e)
/-- Laying, wherever the power is cut. -/
theorem lay_out {D : DS} {J : JM} {bs bs' : List Blk} {at_ : Nat} {l : List Blk} {h : HdM} (j : JSt D.sure J bs) (c : Calm D) (o : LayOk D.sure J at_ l h bs') :
    ((layM J at_ l h D).1 = 0 ∧ (layM J at_ l h D).2.1 = ⟨J.n + 1, h⟩ ∧ Calm (layM J at_ l h D).2.2 ∧ (layM J at_ l h D).2.2.sure.length = D.sure.length ∧ JSt (layM J at_ l h D).2.2.sure ⟨J.n + 1, h⟩ bs' ∧ (D.left = 0 → (layM J at_ l h D).2.2.left = 0)) ∨
    ((layM J at_ l h D).1 = 9 ∧ D.left ≠ 0 ∧ (layM J at_ l h D).2.1 = J ∧ (layM J at_ l h D).2.2.dark = true ∧ (layM J at_ l h D).2.2.sure.length = D.sure.length ∧
      ∀ picks, JSt ((layM J at_ l h D).2.2.crash picks).sure J bs ∨ JSt ((layM J at_ l h D).2.2.crash picks).sure ⟨J.n + 1, h⟩ bs') := by
  obtain ⟨S, hS⟩ : ∃ S, S = D.sure := ⟨_, rfl⟩
  rw [← hS] at j o ⊢
  have lo := j.lo
  have hw0 : Wrote S at_ l 0 D D := ⟨c.lit, hS.symm, by simp [c.loose], fun h => h⟩
  have hrun := run_writes o.hi D [DS.flush, markM J h, DS.flush] l.length 0 D (by omega) hw0
  have hls : layS J at_ l h = ((List.range' 0 l.length).map fun (j : Nat) (D : DS) => D.write ((at_ : Int) + (j : Int)) (l.getD j [])) ++ [DS.flush, markM J h, DS.flush] := by
    unfold layS writesM; rw [List.range_eq_range']
  rw [← hls] at hrun
  have hputs : ∀ k, k ≤ l.length → ∀ p ∈ (List.range k).map (fun j => (at_ + j, l.getD j [])), ¬ Live S J p.1 ∧ p.1 < S.length ∧ WB p.2 := fun k hk p hp => by
    have oh := o.hi
    simp only [List.mem_map, List.mem_range] at hp
    obtain ⟨i, hi, rfl⟩ := hp
    exact ⟨o.free _ (by dsimp only; omega) (by dsimp only; omega), by dsimp only; omega, getD_WB o.wl (by omega)⟩
  have dark : ∀ (D' : DS), D'.dark = true → D.left ≠ 0 → D'.sure.length = S.length → (∀ picks, JSt (D'.crash picks).sure J bs ∨ JSt (D'.crash picks).sure ⟨J.n + 1, h⟩ bs') → runM (layS J at_ l h) D = (9, D') →
      ((layM J at_ l h D).1 = 9 ∧ D.left ≠ 0 ∧ (layM J at_ l h D).2.1 = J ∧ (layM J at_ l h D).2.2.dark = true ∧ (layM J at_ l h D).2.2.sure.length = S.length ∧
      ∀ picks, JSt ((layM J at_ l h D).2.2.crash picks).sure J bs ∨ JSt ((layM J at_ l h D).2.2.crash picks).sure ⟨J.n + 1, h⟩ bs') := fun D' h1 h2 h3 h4 h5 => by
    unfold layM; rw [h5]; exact ⟨rfl, h2, rfl, h1, h3, h4⟩
  rcases hrun with ⟨D1, w1, e1⟩ | ⟨D1, k, hk, hl0, hd, hs1, hlo, e1⟩
  rotate_left
  · refine .inr (dark D1 hd hl0 (by rw [hs1]) (fun picks => .inl ?_) e1)
    show JSt (settleL D1.sure picks 0 0 D1.loose) J bs
    rw [hs1, hlo]
    exact j.settled (hputs k hk) _ _ _
  -- the first flush
  rw [runM] at e1
  have lit1 : D1.lit 0 = 0 := by
    unfold DS.lit DS.there errOf
    rw [w1.lit, if_neg (by simp), w1.sure, if_pos (by omega)]
  rcases step_two D1 with ⟨h1, h2⟩ | h2
  · have e : D1.flush = (9, { D1 with dark := true }) := by unfold DS.flush; rw [lit1, h2]; simp
    rw [e] at e1
    refine .inr (dark { D1 with dark := true } rfl (fun h0 => h1 (w1.left h0)) (by rw [w1.sure]) (fun picks => .inl ?_) (by rw [e1]; simp))
    show JSt (settleL D1.sure picks 0 0 D1.loose) J bs
    rw [w1.sure, w1.loose]
    exact j.settled (hputs _ (Nat.le_refl _)) _ _ _
  have e : D1.flush = (0, { D1 with sure := settleL S [] 128 0 ((List.range l.length).map fun j => (at_ + j, l.getD j [])), loose := [], left := max (D1.left - 1) 0, steps := D1.steps + 1 }) := by
    unfold DS.flush; rw [lit1, h2]; simp [DS.settle, w1.sure, w1.loose]
  have j2 : JSt (settleL S [] 128 0 ((List.range l.length).map fun j => (at_ + j, l.getD j []))) J bs := j.settled (hputs _ (Nat.le_refl _)) _ _ _
  have g2 := fun k => settle_puts S at_ l j.wb o.wl o.hi k l.length (Nat.le_refl _)
  have len2 := length_settleL [] 128 ((List.range l.length).map fun j => (at_ + j, l.getD j [])) S 0
  rw [e] at e1
  simp only [ne_eq, not_true_eq_false, if_false] at e1
  generalize settleL S [] 128 0 ((List.range l.length).map fun j => (at_ + j, l.getD j [])) = S2 at *
  obtain ⟨D2, hD2⟩ : ∃ D2 : DS, D2 = { D1 with sure := S2, loose := [], left := max (D1.left - 1) 0, steps := D1.steps + 1 } := ⟨_, rfl⟩
  rw [← hD2] at e1
  have c2 : Calm D2 := ⟨by rw [hD2]; exact w1.lit, by rw [hD2]⟩
  have s2 : D2.sure = S2 := by rw [hD2]
  have l2 : D.left = 0 → D2.left = 0 := fun h0 => by rw [hD2]; have := w1.left h0; dsimp only; omega
  -- the head
  rw [runM] at e1
  have hb2 := c2.both (by rw [s2]; omega)
  rw [s2] at hb2
  obtain ⟨s, hs, hnx, hs1, hs2⟩ := j2.newest.2
  have hp := putH_ok (n := J.n + 1) (h := h) (by omega) (by have := o.n2; omega) o.may
  have hpw := putH_WB (J.n + 1) h
  have em : markM J h D2 = D2.write ((1 - s : Nat) : Int) (putH (J.n + 1) h).1 := by
    unfold markM; rw [hb2]; simp only [ne_eq, not_true_eq_false, if_false]
    rw [if_neg (by rw [hp]; simp), hnx]
  have lit2 : D2.lit ((1 - s : Nat) : Int) = 0 := c2.litAt (by rw [s2]; omega)
  have bk2 : bankS S2 = bankS S := by unfold bankS; rw [len2]
  have fs2 : ∀ b, firstS S2 b = firstS S b := fun b => by unfold firstS; rw [bk2]
  have hn := fun {n : Nat} (hn : n ≤ 128) => head_new (n := n) (bs' := bs') j2 hs hs1 hs2 o.n2 o.may o.blocks o.batches (by rw [bk2]; exact o.room) o.sz (fun i hi => by rw [fs2, g2]; exact o.cnt i hi) hn
  rcases step_two D2 with ⟨h3, h4⟩ | h4
  · have e3 : D2.write ((1 - s : Nat) : Int) (putH (J.n + 1) h).1 = (9, { D2 with dark := true }) := by unfold DS.write; rw [lit2, h4]; simp
    rw [em, e3] at e1
    refine .inr (dark { D2 with dark := true } rfl (fun h0 => h3 (l2 h0)) (by dsimp only; rw [s2]; exact len2) (fun picks => .inl ?_) (by rw [e1]; simp))
    show JSt (settleL D2.sure picks 0 0 D2.loose) J bs
    rw [c2.loose, s2]; exact j2
  have e3 : D2.write ((1 - s : Nat) : Int) (putH (J.n + 1) h).1 = (0, { D2 with loose := [(1 - s, (putH (J.n + 1) h).1)], left := max (D2.left - 1) 0, steps := D2.steps + 1 }) := by
    unfold DS.write; rw [lit2, h4]; simp [c2.loose]
  rw [em, e3] at e1
  simp only [ne_eq, not_true_eq_false, if_false] at e1
  obtain ⟨D3, hD3⟩ : ∃ D3 : DS, D3 = { D2 with loose := [(1 - s, (putH (J.n + 1) h).1)], left := max (D2.left - 1) 0, steps := D2.steps + 1 } := ⟨_, rfl⟩
  rw [← hD3] at e1
  have s3 : D3.sure = S2 := by rw [hD3]; exact s2
  have lo3 : D3.loose = [(1 - s, (putH (J.n + 1) h).1)] := by rw [hD3]
  have dk3 : D3.dark = false := by rw [hD3]; exact c2.lit
  have l3 : D.left = 0 → D3.left = 0 := fun h0 => by rw [hD3]; have := l2 h0; dsimp only; omega
  -- the last flush
  rw [runM] at e1
  have lit3 : D3.lit 0 = 0 := by
    unfold DS.lit DS.there errOf
    rw [dk3, if_neg (by simp), s3, if_pos (by omega)]
  rcases step_two D3 with ⟨h5, h6⟩ | h6
  · have e4 : D3.flush = (9, { D3 with dark := true }) := by unfold DS.flush; rw [lit3, h6]; simp
    rw [e4] at e1
    refine .inr (dark { D3 with dark := true } rfl (fun h0 => h5 (l3 h0)) (by dsimp only; rw [s3]; exact len2) (fun picks => ?_) (by rw [e1]; simp))
    show JSt (settleL D3.sure picks 0 0 D3.loose) J bs ∨ JSt (settleL D3.sure picks 0 0 D3.loose) _ bs'
    rw [s3, lo3]
    simp only [settleL]
    refine (hn ?_).1
    unfold pickAt
    split <;> omega
  · have e4 : D3.flush = (0, { D3 with sure := settleL S2 [] 128 0 [(1 - s, (putH (J.n + 1) h).1)], loose := [], left := max (D3.left - 1) 0, steps := D3.steps + 1 }) := by
      unfold DS.flush; rw [lit3, h6]; simp [DS.settle, s3, lo3]
    rw [e4] at e1
    simp only [ne_eq, not_true_eq_false, if_false, runM] at e1
    left
    have el : layM J at_ l h D = (0, ⟨J.n + 1, h⟩, { D3 with sure := settleL S2 [] 128 0 [(1 - s, (putH (J.n + 1) h).1)], loose := [], left := max (D3.left - 1) 0, steps := D3.steps + 1 }) := by
      unfold layM; rw [e1]; simp
    rw [el]
    refine ⟨rfl, rfl, ⟨dk3, rfl⟩, ?_, ?_, fun h0 => by have := l3 h0; dsimp only; omega⟩
    · dsimp only; rw [length_settleL]; exact len2
    · dsimp only
      simp only [settleL, pickAt, List.getElem?_nil]
      exact (hn (Nat.le_refl _)).2 rfl
end Go.Cx
/-! The journal in plain Lean: Append, Replace, Make. No program in sight. -/
namespace Go.Cx
theorem asked_ok {D : DS} {b : Blk} (c : Calm D) (hb : b.length ≤ 1048576) : askedM D b = (cutB b, 0) := by
  unfold askedM; rw [if_neg (by omega), if_neg (by simp [c.lit])]
theorem asked_long {D : DS} {b : Blk} (hb : 1048576 < b.length) : askedM D b = ([], 3) := by
  unfold askedM; rw [if_pos hb]
theorem first_of {S : List Blk} {b b' i j : Nat} (hb : b < 2) (hb' : b' < 2) (hi : i < bankS S) (hj : j < bankS S) (e : firstS S b + i = firstS S b' + j) : b = b' ∧ i = j := by
  unfold firstS at e
  have h1 : b = 0 ∨ b = 1 := by omega
  have h2 : b' = 0 ∨ b' = 1 := by omega
  rcases h1 with rfl | rfl <;> rcases h2 with rfl | rfl <;> omega
theorem append_out {D : DS} {J : JM} {bs : List Blk} {b : Blk} (j : JSt D.sure J bs) (c : Calm D) (n2 : J.n ≤ 59) (hb : b.length ≤ 1048576) :
    (bankS D.sure < J.h.blocks + (cutB b).length → appendM J D b = (10, J, D)) ∧
    (J.h.blocks + (cutB b).length ≤ bankS D.sure → appendM J D b = layM J (firstM D J.h.bank + J.h.blocks) (cutB b) ⟨J.h.bank, J.h.blocks + (cutB b).length, J.h.batches + 1⟩ D ∧
      LayOk D.sure J (firstM D J.h.bank + J.h.blocks) (cutB b) ⟨J.h.bank, J.h.blocks + (cutB b).length, J.h.batches + 1⟩ (bs ++ [b])) := by
  have ha := asked_ok c hb
  have hp := cut_pos b
  refine ⟨fun h => ?_, fun h => ⟨?_, ?_⟩⟩
  · unfold appendM; rw [ha, bank_eq]; simp only [ne_eq, not_true_eq_false, if_false]; rw [if_pos (by omega)]
  · unfold appendM; rw [ha, bank_eq]; simp only [ne_eq, not_true_eq_false, if_false]; rw [if_neg (by omega)]
  · obtain ⟨m1, m2, m3⟩ := j.may
    have hlast := first_le j.lo m1 (i := J.h.blocks + (cutB b).length - 1) (by omega)
    have hi := j.hi
    have hbk : bankS D.sure ≤ 2047 := by unfold bankS; omega
    rw [first_eq]
    have hcl := j.blocks
    refine ⟨chop_WB _, by omega, fun k h1 h2 => ?_, n2, ⟨m1, by dsimp only; omega, by dsimp only; omega⟩, by rw [Cut_snoc, List.length_append, ← hcl], by simp [j.batches], h, fun x hx => ?_, fun i hi => ?_⟩
    · rintro (h3 | ⟨h3, h4⟩)
      · have : 2 ≤ firstS D.sure J.h.bank := by unfold firstS; omega
        omega
      · omega
    · simp only [List.mem_append, List.mem_singleton] at hx
      rcases hx with hx | rfl
      · exact j.sz x hx
      · exact hb
    · dsimp only at hi ⊢
      rw [Cut_snoc]
      by_cases h1 : i < J.h.blocks
      · rw [if_neg (by omega), j.cnt i h1]
        simp only [List.getD_eq_getElem?_getD]
        rw [List.getElem?_append_left (by omega)]
      · rw [if_pos (by omega), show firstS D.sure J.h.bank + i - (firstS D.sure J.h.bank + J.h.blocks) = i - (Cut bs).length by omega]
        simp only [List.getD_eq_getElem?_getD]
        rw [List.getElem?_append_right (by omega)]
theorem replace_out {D : DS} {J : JM} {bs : List Blk} {b : Blk} (j : JSt D.sure J bs) (c : Calm D) (n2 : J.n ≤ 59) (hb : b.length ≤ 1048576) :
    (bankS D.sure < (cutB b).length → replaceM J D b = (10, J, D)) ∧
    ((cutB b).length ≤ bankS D.sure → replaceM J D b = layM J (firstM D (1 - J.h.bank)) (cutB b) ⟨1 - J.h.bank, (cutB b).length, 1⟩ D ∧
      LayOk D.sure J (firstM D (1 - J.h.bank)) (cutB b) ⟨1 - J.h.bank, (cutB b).length, 1⟩ [b]) := by
  have ha := asked_ok c hb
  have hp := cut_pos b
  refine ⟨fun h => ?_, fun h => ⟨?_, ?_⟩⟩
  · unfold replaceM; rw [ha, bank_eq]; simp only [ne_eq, not_true_eq_false, if_false]; rw [if_pos (by omega)]
  · unfold replaceM; rw [ha, bank_eq]; simp only [ne_eq, not_true_eq_false, if_false]; rw [if_neg (by omega)]
  · obtain ⟨m1, m2, m3⟩ := j.may
    have hlast := first_le j.lo (show 1 - J.h.bank < 2 by omega) (i := (cutB b).length - 1) (by omega)
    have hi := j.hi
    have hr := j.room
    have hbk : bankS D.sure ≤ 2047 := by unfold bankS; omega
    rw [first_eq]
    refine ⟨chop_WB _, by omega, fun k h1 h2 => ?_, n2, ⟨by dsimp only; omega, by dsimp only; omega, by dsimp only; omega⟩, by rw [Cut_one], rfl, h, fun x hx => by rw [List.mem_singleton.1 hx]; exact hb, fun i hi => ?_⟩
    · rintro (h3 | ⟨h3, h4⟩)
      · have : 2 ≤ firstS D.sure (1 - J.h.bank) := by unfold firstS; omega
        omega
      · have := first_of (S := D.sure) (b := 1 - J.h.bank) (b' := J.h.bank) (i := k - firstS D.sure (1 - J.h.bank)) (j := k - firstS D.sure J.h.bank) (by omega) m1 (by omega) (by omega) (by omega)
        omega
    · dsimp only at hi ⊢
      rw [if_pos (by omega), Nat.add_sub_cancel_left, Cut_one]
/-- Append where the power is not cut. -/
theorem append_go {D : DS} {J : JM} {bs : List Blk} {b : Blk} (j : JSt D.sure J bs) (c : Calm D) (hl : D.left = 0) (n2 : J.n ≤ 59) (hb : b.length ≤ 1048576) (hr : J.h.blocks + (cutB b).length ≤ bankS D.sure) :
    ∃ D', appendM J D b = (0, ⟨J.n + 1, ⟨J.h.bank, J.h.blocks + (cutB b).length, J.h.batches + 1⟩⟩, D') ∧ Calm D' ∧ D'.left = 0 ∧ D'.sure.length = D.sure.length ∧ JSt D'.sure ⟨J.n + 1, ⟨J.h.bank, J.h.blocks + (cutB b).length, J.h.batches + 1⟩⟩ (bs ++ [b]) := by
  obtain ⟨e, o⟩ := (append_out j c n2 hb).2 hr
  rcases lay_out j c o with ⟨h1, h2, h3, h4, h5, h6⟩ | ⟨-, h2, -⟩
  · refine ⟨_, ?_, h3, h6 hl, h4, h5⟩
    rw [e, ← h1, ← h2]
  · exact absurd hl h2
theorem replace_go {D : DS} {J : JM} {bs : List Blk} {b : Blk} (j : JSt D.sure J bs) (c : Calm D) (hl : D.left = 0) (n2 : J.n ≤ 59) (hb : b.length ≤ 1048576) (hr : (cutB b).length ≤ bankS D.sure) :
    ∃ D', replaceM J D b = (0, ⟨J.n + 1, ⟨1 - J.h.bank, (cutB b).length, 1⟩⟩, D') ∧ Calm D' ∧ D'.left = 0 ∧ D'.sure.length = D.sure.length ∧ JSt D'.sure ⟨J.n + 1, ⟨1 - J.h.bank, (cutB b).length, 1⟩⟩ [b] := by
  obtain ⟨e, o⟩ := (replace_out j c n2 hb).2 hr
  rcases lay_out j c o with ⟨h1, h2, h3, h4, h5, h6⟩ | ⟨-, h2, -⟩
  · refine ⟨_, ?_, h3, h6 hl, h4, h5⟩
    rw [e, ← h1, ← h2]
  · exact absurd hl h2
/-- A new journal on a new disk. -/
theorem make_new {n : Nat} (h1 : 64 ≤ n) (h2 : n ≤ 4096) : (makeM (DS.new n)).1 = 0 ∧ (makeM (DS.new n)).2.1 = ⟨1, HdM.z⟩ ∧ Calm (makeM (DS.new n)).2.2 ∧ (makeM (DS.new n)).2.2.left = 0 ∧ (makeM (DS.new n)).2.2.sure.length = n ∧ JSt (makeM (DS.new n)).2.2.sure ⟨1, HdM.z⟩ [] := by
  obtain ⟨S, hS⟩ : ∃ S, S = (DS.new n).sure := ⟨_, rfl⟩
  have lS : S.length = n := by rw [hS]; simp [DS.new]
  have wS : ∀ b ∈ S, WB b := by rw [hS]; intro b hb; rw [List.eq_of_mem_replicate hb]; exact WB_z
  have gS : ∀ k, k < n → S.getD k [] = zblk := fun k hk => by rw [hS]; simp [DS.new, hk]
  have hrun := run_writes (S := S) (at_ := 0) (l := [zblk, zblk]) (by simp; omega) (DS.new n) [DS.flush, markM ⟨0, HdM.z⟩ HdM.z, DS.flush] 2 0 (DS.new n) rfl ⟨rfl, hS.symm, rfl, fun h => h⟩
  have hls : layS ⟨0, HdM.z⟩ 0 [zblk, zblk] HdM.z = ((List.range' 0 2).map fun (j : Nat) (D : DS) => D.write (((0 : Nat) : Int) + (j : Int)) ([zblk, zblk].getD j [])) ++ [DS.flush, markM ⟨0, HdM.z⟩ HdM.z, DS.flush] := by
    unfold layS writesM; rw [List.range_eq_range']; rfl
  rw [← hls] at hrun
  rcases hrun with ⟨D1, w1, e1⟩ | ⟨D1, k, hk, hl0, -⟩
  rotate_left
  · exact absurd rfl hl0
  have l1 := w1.left rfl
  have st : ∀ D : DS, D.left = 0 → D.step = (0, { D with left := 0, steps := D.steps + 1 }) := fun D h => by unfold DS.step; rw [if_neg (by omega), h]; rfl
  rw [runM] at e1
  have lit1 : D1.lit 0 = 0 := by
    unfold DS.lit DS.there errOf
    rw [w1.lit, if_neg (by simp), w1.sure, if_pos (by omega)]
  have e : D1.flush = (0, { D1 with sure := settleL S [] 128 0 ((List.range 2).map fun j => (0 + j, [zblk, zblk].getD j [])), loose := [], left := 0, steps := D1.steps + 1 }) := by
    unfold DS.flush; rw [lit1, st D1 l1]; simp [DS.settle, w1.sure, w1.loose]
  have g2 := fun k => settle_puts S 0 [zblk, zblk] wS (fun b hb => by simp at hb; subst hb; exact WB_z) (by simp; omega) k 2 (Nat.le_refl _)
  have len2 := length_settleL [] 128 ((List.range 2).map fun j => (0 + j, [zblk, zblk].getD j [])) S 0
  have wb2 := settleL_WB [] 128 ((List.range 2).map fun j => (0 + j, [zblk, zblk].getD j [])) S 0 wS (fun p hp => by
    simp only [List.mem_map, List.mem_range] at hp
    obtain ⟨i, hi, rfl⟩ := hp
    refine ⟨by dsimp only; omega, ?_⟩
    match i, hi with
    | 0, _ => exact WB_z
    | 1, _ => exact WB_z)
  rw [e] at e1
  simp only [ne_eq, not_true_eq_false, if_false] at e1
  generalize settleL S [] 128 0 ((List.range 2).map fun j => (0 + j, [zblk, zblk].getD j [])) = S2 at *
  have g2' : ∀ k, k < n → S2.getD k [] = zblk := fun k hk => by
    rw [g2 k]
    split
    · rename_i h; have : k = 0 ∨ k = 1 := by omega
      rcases this with rfl | rfl <;> rfl
    · exact gS k hk
  obtain ⟨D2, hD2⟩ : ∃ D2 : DS, D2 = { D1 with sure := S2, loose := [], left := 0, steps := D1.steps + 1 } := ⟨_, rfl⟩
  rw [← hD2] at e1
  have c2 : Calm D2 := ⟨by rw [hD2]; exact w1.lit, by rw [hD2]⟩
  have s2 : D2.sure = S2 := by rw [hD2]
  have l2 : D2.left = 0 := by rw [hD2]
  rw [runM] at e1
  have hb2 := c2.both (by rw [s2]; omega)
  rw [s2, g2' 0 (by omega), g2' 1 (by omega)] at hb2
  have hp := putH_ok (n := 0 + 1) (h := HdM.z) (by omega) (by omega) (by decide)
  have hnx : nextM zblk zblk = 0 := by decide +kernel
  have em : markM ⟨0, HdM.z⟩ HdM.z D2 = D2.write 0 (sealB 1 HdM.z.bytes) := by
    unfold markM; rw [hb2]; simp only [ne_eq, not_true_eq_false, if_false]
    rw [hp, hnx]; simp
  have lit2 : D2.lit 0 = 0 := c2.litAt (k := 0) (by rw [s2]; omega)
  have e3 : D2.write 0 (sealB 1 HdM.z.bytes) = (0, { D2 with loose := [(0, sealB 1 HdM.z.bytes)], left := 0, steps := D2.steps + 1 }) := by
    unfold DS.write; rw [lit2, st D2 l2]; simp [c2.loose]
  rw [em, e3] at e1
  simp only [ne_eq, not_true_eq_false, if_false] at e1
  rw [runM] at e1
  have e4 : ({ D2 with loose := [(0, sealB 1 HdM.z.bytes)], left := 0, steps := D2.steps + 1 } : DS).flush = (0, { D2 with sure := settleL S2 [] 128 0 [(0, sealB 1 HdM.z.bytes)], loose := [], left := 0, steps := D2.steps + 1 + 1 }) := by
    unfold DS.flush
    rw [show ({ D2 with loose := [(0, sealB 1 HdM.z.bytes)], left := 0, steps := D2.steps + 1 } : DS).lit 0 = 0 from lit2, st _ rfl]
    simp [DS.settle, s2]
  rw [e4] at e1
  simp only [ne_eq, not_true_eq_false, if_false, runM] at e1
  have el : makeM (DS.new n) = (0, ⟨1, HdM.z⟩, { D2 with sure := settleL S2 [] 128 0 [(0, sealB 1 HdM.z.bytes)], loose := [], left := 0, steps := D2.steps + 1 + 1 }) := by
    unfold makeM layM; rw [e1]; simp
  have hw1 : WB (sealB 1 HdM.z.bytes) := sealB_WB (by decide)
  have hset : settleL S2 [] 128 0 [(0, sealB 1 HdM.z.bytes)] = S2.set 0 (sealB 1 HdM.z.bytes) := by
    simp only [settleL, pickAt, List.getElem?_nil]
    rw [torn128 (by rw [g2' 0 (by omega)]; exact WB_z) hw1]
  rw [el, hset]
  refine ⟨rfl, rfl, ⟨c2.lit, rfl⟩, rfl, by dsimp only; rw [List.length_set]; omega, ?_⟩
  dsimp only
  refine ⟨by rw [List.length_set]; omega, by rw [List.length_set]; omega, fun b hb => ?_, by decide, by decide, by decide, rfl, rfl, Nat.zero_le _, (fun b hb => by cases hb), fun i hi => absurd hi (Nat.not_lt_zero _), 0, by omega, ?_, ?_⟩
  · rcases List.mem_or_eq_of_mem_set hb with hb | rfl
    · exact wb2 b hb
    · exact hw1
  · have := putH_ok (n := 1) (h := HdM.z) (by omega) (by omega) (by decide)
    rw [this]
    simp [List.getD, List.getElem?_set_self (show 0 < S2.length by omega)]
  · have : (S2.set 0 (sealB 1 HdM.z.bytes)).getD 1 [] = zblk := by
      have := g2' 1 (by omega)
      simp only [List.getD_eq_getElem?_getD] at this ⊢
      rw [List.getElem?_set_ne (by omega)]; exact this
    rw [Nat.sub_zero, this]
    exact slot_z (Nat.le_refl _)
end Go.Cx
/-! Layer 9, plain: what batches come to; how much a table weighs. No program in sight. -/
namespace Go.Cx
theorem snocI {α : Type} {p : List α → Prop} (h0 : p []) (h1 : ∀ l x, p l → p (l ++ [x])) (l : List α) : p l := by
  have : ∀ r : List α, p r.reverse := fun r => by
    induction r with
    | nil => exact h0
    | cons x r ih => rw [List.reverse_cons]; exact h1 _ _ ih
  have h := this l.reverse
  rwa [List.reverse_reverse] at h
def foldStep (o : Option Tab) (b : Blk) : Option Tab := o.bind fun t => if (getB b).2 = 0 then some (applyM t (getB b).1) else none
def foldB (bs : List Blk) : Option Tab := bs.foldl foldStep (some [])
theorem foldB_nil : foldB [] = some [] := rfl
theorem fold_none (bs : List Blk) : bs.foldl foldStep none = none := by
  induction bs with
  | nil => rfl
  | cons b bs ih => exact ih
theorem foldB_snoc {bs : List Blk} {t : Tab} {b : Blk} {l : List ChM} (h : foldB bs = some t) (g : getB b = (l, 0)) : foldB (bs ++ [b]) = some (applyM t l) := by
  unfold foldB at h ⊢
  rw [List.foldl_append, h]
  simp [foldStep, g]
theorem foldB_snoc_inv {bs : List Blk} {t : Tab} {b : Blk} (h : foldB (bs ++ [b]) = some t) : ∃ t0, foldB bs = some t0 ∧ (getB b).2 = 0 ∧ t = applyM t0 (getB b).1 := by
  unfold foldB at h ⊢
  rw [List.foldl_append] at h
  cases e : bs.foldl foldStep (some []) with
  | none => rw [e] at h; cases h
  | some t0 =>
    rw [e] at h
    simp only [List.foldl_cons, List.foldl_nil, foldStep, Option.bind_some] at h
    split at h
    · rename_i hg; exact ⟨t0, rfl, hg, (Option.some.inj h).symm⟩
    · cases h
theorem foldB_pre {bs cs : List Blk} {t : Tab} (h : foldB (bs ++ cs) = some t) : ∃ t0, foldB bs = some t0 := by
  unfold foldB at h ⊢
  rw [List.foldl_append] at h
  cases e : bs.foldl foldStep (some []) with
  | none => rw [e, fold_none] at h; cases h
  | some t0 => exact ⟨t0, rfl⟩
theorem foldB_step {bs : List Blk} {t u : Tab} (h : foldB bs = some t) {i : Nat} (hi : i < bs.length) (hu : foldB (bs.take i) = some u) : (getB bs[i]).2 = 0 ∧ foldB (bs.take (i + 1)) = some (applyM u (getB bs[i]).1) := by
  have e : bs.take (i + 1) = bs.take i ++ [bs[i]] := by rw [List.take_add_one, List.getElem?_eq_getElem hi]; rfl
  obtain ⟨t1, h1⟩ := foldB_pre (bs := bs.take (i + 1)) (cs := bs.drop (i + 1)) (by rw [List.take_append_drop]; exact h)
  rw [e] at h1 ⊢
  obtain ⟨t0, h2, h3, rfl⟩ := foldB_snoc_inv h1
  obtain rfl := Option.some.inj (hu.symm.trans h2)
  exact ⟨h3, h1⟩
theorem apply_mem : ∀ (t : Tab) (l : List ChM), ∀ r ∈ applyM t l, r ∈ t ∨ ∃ c ∈ l, c.gone = false ∧ r = (c.key, c.val) := by
  intro t l
  induction t, l using applyM.induct with
  | case1 => intro r h; rw [applyM] at h; cases h
  | case2 x t => intro r h; rw [applyM] at h; exact .inl h
  | case3 y l hg ih => intro r h; rw [applyM, if_pos hg] at h; exact (ih r h).imp id fun ⟨c, h1, h2⟩ => ⟨c, .tail _ h1, h2⟩
  | case4 y l hg ih =>
    intro r h; rw [applyM, if_neg hg] at h
    rcases List.mem_cons.1 h with rfl | h
    · exact .inr ⟨y, .head _, by simpa using hg, rfl⟩
    · exact (ih r h).imp id fun ⟨c, h1, h2⟩ => ⟨c, .tail _ h1, h2⟩
  | case5 x t y l hk ih =>
    intro r h; rw [applyM, if_pos hk] at h
    rcases List.mem_cons.1 h with rfl | h
    · exact .inl (.head _)
    · exact (ih r h).imp (.tail _) id
  | case6 x t y l hk he hg ih =>
    intro r h; rw [applyM, if_neg hk, if_pos he, if_pos hg] at h
    exact (ih r h).imp (.tail _) fun ⟨c, h1, h2⟩ => ⟨c, .tail _ h1, h2⟩
  | case7 x t y l hk he hg ih =>
    intro r h; rw [applyM, if_neg hk, if_pos he, if_neg hg] at h
    rcases List.mem_cons.1 h with rfl | h
    · exact .inr ⟨y, .head _, by simpa using hg, rfl⟩
    · exact (ih r h).imp (.tail _) fun ⟨c, h1, h2⟩ => ⟨c, .tail _ h1, h2⟩
  | case8 x t y l hk he hg ih =>
    intro r h; rw [applyM, if_neg hk, if_neg he, if_pos hg] at h
    exact (ih r h).imp id fun ⟨c, h1, h2⟩ => ⟨c, .tail _ h1, h2⟩
  | case9 x t y l hk he hg ih =>
    intro r h; rw [applyM, if_neg hk, if_neg he, if_neg hg] at h
    rcases List.mem_cons.1 h with rfl | h
    · exact .inr ⟨y, .head _, by simpa using hg, rfl⟩
    · exact (ih r h).imp id fun ⟨c, h1, h2⟩ => ⟨c, .tail _ h1, h2⟩
theorem apply_may {t : Tab} {l : List ChM} (ht : MayR t) (hl : MayC l) : MayR (applyM t l) := by
  refine ⟨apply_rising t l ht.1 hl.1, fun r hr => ?_⟩
  rcases apply_mem t l r hr with h | ⟨c, h1, h2, rfl⟩
  · exact ht.2 r h
  · exact ⟨(hl.2 c h1).k1, (hl.2 c h1).k2, (hl.2 c h1).v⟩
theorem fold_may : ∀ (bs : List Blk) (t : Tab), foldB bs = some t → MayR t := by
  refine snocI ?_ ?_
  · intro t h; rw [← Option.some.inj h]; exact may_nil
  · intro bs b ih t h
    obtain ⟨t0, h1, h2, rfl⟩ := foldB_snoc_inv h
    exact apply_may (ih t0 h1) (put_getB (b := b) (l := (getB b).1) (by rw [← h2])).1
/-! ### What it weighs -/
def wt : Tab → Nat
  | [] => 0
  | r :: t => 9 + r.1.length + r.2.length + wt t
def wl (l : List ChM) : Nat := ((l.map chB).flatten).length
theorem wl_nil : wl [] = 0 := rfl
theorem wl_cons (c : ChM) (l : List ChM) : wl (c :: l) = (chB c).length + wl l := by simp [wl]
theorem put_wl (l : List ChM) : (putB l).length = 4 + wl l := by simp [putB, wl]
theorem chB_lo (c : ChM) : 4 + c.key.length + (if c.gone then 1 else 5 + c.val.length) = (chB c).length := by
  unfold chB
  cases c.gone <;> simp [rowB_length] <;> omega
theorem wt_apply : ∀ (t : Tab) (l : List ChM), wt (applyM t l) ≤ wt t + wl l := by
  intro t l
  induction t, l using applyM.induct with
  | case1 => rw [applyM]; simp [wt]
  | case2 x t => rw [applyM]; simp [wl]
  | case3 y l hg ih => rw [applyM, if_pos hg, wl_cons]; omega
  | case4 y l hg ih =>
    have := chB_lo y
    rw [if_neg hg] at this
    rw [applyM, if_neg hg, wl_cons]; simp only [wt] at ih ⊢; omega
  | case5 x t y l hk ih => rw [applyM, if_pos hk]; simp only [wt] at ih ⊢; omega
  | case6 x t y l hk he hg ih => rw [applyM, if_neg hk, if_pos he, if_pos hg, wl_cons]; simp only [wt] at ih ⊢; omega
  | case7 x t y l hk he hg ih =>
    have := chB_lo y
    rw [if_neg hg] at this
    rw [applyM, if_neg hk, if_pos he, if_neg hg, wl_cons]; simp only [wt] at ih ⊢; omega
  | case8 x t y l hk he hg ih => rw [applyM, if_neg hk, if_neg he, if_pos hg, wl_cons]; omega
  | case9 x t y l hk he hg ih =>
    have := chB_lo y
    rw [if_neg hg] at this
    rw [applyM, if_neg hk, if_neg he, if_neg hg, wl_cons]; simp only [wt] at ih ⊢; omega
theorem wl_whole : ∀ (t : Tab), wl (betweenM [] t) = wt t
  | [] => by rw [betweenM]; rfl
  | r :: t => by
    rw [betweenM, wl_cons, wl_whole t, ← chB_lo]
    simp [wt]; omega
theorem wt_len : ∀ (t : Tab), t.length ≤ wt t
  | [] => Nat.le_refl _
  | r :: t => by have := wt_len t; simp only [wt, List.length_cons]; omega
theorem wl_len : ∀ (l : List ChM), l.length ≤ wl l
  | [] => Nat.le_refl _
  | c :: l => by have := wl_len l; have := chB_lo c; rw [wl_cons]; simp only [List.length_cons]; split at this <;> omega
/-- The whole of a table, as one batch. -/
def wholeB (t : Tab) : Blk := putB (betweenM [] t)
theorem wholeB_len (t : Tab) : (wholeB t).length = 4 + wt t := by unfold wholeB; rw [put_wl, wl_whole]
theorem whole_may {t : Tab} (h : MayR t) : MayC (betweenM [] t) := between_may may_nil h
theorem fold_whole {t : Tab} (h : MayR t) (hw : wt t < 4294967296) : foldB [wholeB t] = some t := by
  have hl : (betweenM [] t).length < 4294967296 := by have := wl_len (betweenM [] t); rw [wl_whole] at this; omega
  have := foldB_snoc (b := wholeB t) foldB_nil (get_putB (whole_may h) hl)
  rw [apply_whole t h.1] at this
  exact this
theorem fold_put {bs : List Blk} {t : Tab} {l : List ChM} (h : foldB bs = some t) (m : MayC l) (hw : wl l < 4294967296) : foldB (bs ++ [putB l]) = some (applyM t l) :=
  foldB_snoc h (get_putB m (by have := wl_len l; omega))
/-- A whole table takes no more room than the batches that came to it. -/
theorem fold_room : ∀ (bs : List Blk) (t : Tab), foldB bs = some t → bs = [] ∧ t = [] ∨ (wt t + 135) / 128 ≤ (Cut bs).length := by
  refine snocI ?_ ?_
  · intro t h; exact .inl ⟨rfl, (Option.some.inj h).symm⟩
  · intro bs b ih t h
    obtain ⟨t0, h1, h2, rfl⟩ := foldB_snoc_inv h
    obtain ⟨-, h3, -⟩ := put_getB (b := b) (l := (getB b).1) (by rw [← h2])
    have h4 := wt_apply t0 (getB b).1
    have h5 := put_wl (getB b).1
    rw [h3] at h5
    refine .inr ?_
    rw [Cut_snoc, List.length_append, cut_len]
    rcases ih t0 h1 with ⟨rfl, rfl⟩ | h
    · simp only [wt] at h4; omega
    · omega
theorem wholeB_cut (t : Tab) : (cutB (wholeB t)).length = (wt t + 135) / 128 := by rw [cut_len, wholeB_len]; congr 1; omega
/-- What the changes of one call weigh. -/
theorem wl_small : ∀ {l : List ChM}, (∀ c ∈ l, c.ok) → wl l ≤ 25 * l.length + (l.map fun c => c.val.length).sum
  | [], _ => by simp [wl]
  | c :: l, h => by
    have ih := wl_small (l := l) fun c hc => h c (.tail _ hc)
    have h1 := (h c (.head _)).k2
    have h2 := chB_lo c
    rw [wl_cons]
    simp only [List.map_cons, List.sum_cons, List.length_cons]
    split at h2 <;> omega
end Go.Cx
/-! A batch's blocks (journal.cut, slices.Chunk), in the program. -/
namespace Go.Cx
/-- What Chunk hands out of a row of so many bytes. -/
def chunkV (g n : Nat) : List (List Value) := (List.range ((n + 127) / 128)).map fun i => [.slice (some ⟨g, i * 128, none⟩) (min 128 (n - i * 128)) (min 128 (n - i * 128))]
theorem chunkV_len (g n : Nat) : (chunkV g n).length = (n + 127) / 128 := by simp [chunkV]
theorem chunkV_at {g n i : Nat} (h : i * 128 < n) : (chunkV g n)[i]? = some [.slice (some ⟨g, i * 128, none⟩) (min 128 (n - i * 128)) (min 128 (n - i * 128))] := by
  have h2 : i < (n + 127) / 128 := by omega
  simp [chunkV, h2]
theorem rdS_of1 {L : List Assn} {a : Option Addr} {m : Nat} {B : Blk} (h : ∀ y, Sep L y → rdx a m (cb B) y) (hl : m = B.length) : RdS L a m (cb B) := by
  have := rdS_of h hl
  rwa [Nat.mul_one] at this
theorem set_pad {p : Blk} {m : Nat} (h : p.length = m) (hm : m ≤ 128) : setL (cb zblk) 0 ((cb p).take m) = cb (padB 128 p) := by
  subst h
  rw [List.take_of_length_le (by simp), cb_setL]
  congr 1
  unfold padB zblk
  rw [Nat.zero_add, List.drop_replicate, List.take_zero, List.nil_append]
theorem minI (q : Nat) : (min (128 : Int) (q : Int)) = ((min 128 q : Nat) : Int) := by omega
end Go.Cx
namespace Go.Proofs.YtlckhaodecdbbaaGreatDoor
open Go.Cx
attribute [local irreducible] Go.Cx.CX Go.Cx.CC Go.Cx.CQ Go.Cx.PS Go.Cx.Ctr Go.Cx.CH
set_option maxRecDepth 10000
theorem chunk_c (u : Value) (hu : u.cells = #[u]) : Ctr Tryz.prog 179 [u, .int .i64 128] [] (fun _ => True)
    (fun v M => ∃ b1 b2, v = .func (.func 193) #[] #[.pointer (some ⟨b1, 0, none⟩), .pointer (some ⟨b2, 0, none⟩)] ∧ M = [bk b1 23 [u], bk b2 3 [.int .i64 128]]) := by
  refine Ctr.intro Tryz.func179 rfl Tryz.ntmps179 rfl fun x w hp => ?_
  refine wk ?_
  (apply CX.box; (· rfl); (· rfl); intro b1)
  rw [hu]
  (apply CX.box; (· rfl); (· rfl); intro b2)
  refine wk ?_
  (apply CQ.end1; (· rfl); (· exact .tmp rfl))
  · exact ⟨b1, b2, rfl, rfl⟩
  · exact selA
theorem chunkI_c (g n cap : Nat) (hn : n ≤ 1073741824) (hcap : n ≤ cap) (b1 b2 : Nat) :
    Iter Tryz.prog 193 [.pointer (some ⟨b1, 0, none⟩), .pointer (some ⟨b2, 0, none⟩)] [bk b1 23 [.slice (some ⟨g, 0, none⟩) n cap], bk b2 3 [.int .i64 128]] (fun _ => True) (chunkV g n) := by
  refine Iter.intro Tryz.func193 rfl Tryz.ntmps193 rfl ?_
  rintro ly x I w - hY M0 hI0
  refine wk ?_
  refine CC.loop (X := Nat × List Assn) (fun s => [(0, .func (.yield ly) #[] #[]), (1, .pointer (some ⟨b1, 0, none⟩)), (2, .pointer (some ⟨b2, 0, none⟩)), (4, .int .i64 ((s.1 * 128 : Nat) : Int))])
    (fun s => [many s.2, bk b1 23 [.slice (some ⟨g, 0, none⟩) n cap], bk b2 3 [.int .i64 128], exact x]) (fun s => s.1 ≤ (n + 127) / 128 ∧ I s.1 s.2) (fun s => (n + 127) / 128 - s.1) (0, M0) ⟨Nat.zero_le _, hI0⟩ ⟨rfl, rfl, rfl, rfl, trivial⟩ (by exact selA) ?_
  rintro ⟨i, M⟩ ⟨hi, hI⟩
  dsimp only at hi hI ⊢
  by_cases h1 : i * 128 < n
  · have hat := chunkV_at (g := g) h1
    refine wk ?_
    refine CC.draw [(0, 1), (1, 1), (2, 0), (3, 0), (4, 0), (5, 0), (6, 0)] mixed rfl (by kernel_rfl) (by kernel_rfl) [bk b1 23 [.slice (some ⟨g, 0, none⟩) n cap], bk b2 3 [.int .i64 128]] ?_
    refine hwk ?_
    refine CH.pure rfl (PS.sliceLo (l := i * 128) rfl rfl rfl rfl (by omega) hcap) ?_
    refine hwk ?_
    rw [minI (n - i * 128)]
    have hmn : min 128 (n - i * 128) = if 128 ≤ n - i * 128 then 128 else n - i * 128 := by split <;> omega
    have hmp : 0 < min 128 (n - i * 128) ∧ min 128 (n - i * 128) ≤ 128 ∧ i * 128 + min 128 (n - i * 128) ≤ n := by omega
    generalize min 128 (n - i * 128) = m at hat hmp
    refine wnk ?_
    refine CC.regionI ?_
    refine CXI.ps ?_
    refine CXI.ps ?_
    refine CXI.ps ?_
    refine CXI.ps ?_
    refine CXI.ps ?_
    refine CXI.ps ?_
    refine CXI.ps ?_
    refine CXI.ps ?_
    refine CXI.ps ?_
    refine CXI.ps ?_ (PS.slice3 (l := i * 128) (h := i * 128 + m) (m := i * 128 + m) rfl rfl rfl rfl (eqI (by simp)) (.inr ⟨_, rfl⟩) ⟨.i64, by simp⟩ (by omega) (by omega) (by omega))
    have e1 : cutAt (some ⟨g, 0, none⟩) (i * 128) (i * 128 + m) 1 = some ⟨g, i * 128, none⟩ := by
      unfold cutAt; rw [if_neg (by omega)]; simp [addr_add]
    rw [e1, Nat.add_sub_cancel_left]
    refine CXI.yieldM hY (k := i) (M := M) (vs := [.slice (some ⟨g, i * 128, none⟩) m m]) hat hI ?_
    intro M' hI'
    refine CXI.ps ?_
    refine CXI.nil ?_
    refine wk ?_
    exact CQ.round (x := (i, M)) (i + 1, M') ⟨by dsimp only; omega, hI'⟩ (by dsimp only; omega) ⟨rfl, rfl, rfl, eqI (by simp; omega), trivial⟩ (by exact selA)
  · have hi2 : i = (n + 127) / 128 := by omega
    refine wk ?_
    exact CQ.endIter rfl hI (by rw [chunkV_len]; exact hi2)
theorem cut_c (B : Blk) (hB : B.length ≤ 1048576) (a : Option Addr) (cap : Nat) (hn : a = none → B.length = 0 ∧ cap = 0) : Ctr Tryz.prog 157 [.slice a B.length cap] [] (fun x => rdx a B.length (cb B) x)
    (fun v M => ∃ a' c', v = .slice a' (cutB B).length c' ∧ M = [own 59 128 a' (cutB B).length c' (flat (cutB B))]) := by
  refine Ctr.introM Tryz.func157 rfl Tryz.ntmps157 rfl fun x w hp => ?_
  refine wk ?_
  refine CX.allocZ [.slice none 0 0] ?_ (hv := rfl)
  intro b3
  refine wk ?_
  refine CX.callA (row_c B (by omega) a cap hn) ?_ (hpre := by exact rdx_ex (by first | exact pickA | exact updA) hp)
  rintro _ _ ⟨g, c, rfl, rfl⟩
  refine CX.fact (own_none (e := 5) (sz := 1) (by first | exact pickA | exact updA)) ?_
  rintro ⟨-, hc, -⟩
  refine CX.callA (chunk_c (.slice (some ⟨g, 0, none⟩) (4 + B.length) c) rfl) ?_
  rintro _ _ ⟨b1, b2, rfl, rfl⟩
  refine wk ?_
  refine CC.ownNil 59 128 ?_
  have hRl : (rowB B).length = 4 + B.length := rowB_length B
  have hlen : (chunkV g (4 + B.length)).length = (cutB B).length := by rw [chunkV_len, cutB, chop_len, hRl]
  refine CC.range (chunkI_c g (4 + B.length) c (by omega) hc b1 b2) rfl (fun k M => ∃ a1 c1, M = [bk b3 73 [.slice a1 k c1], own 59 128 a1 k c1 (flat ((cutB B).take k))] ∧ k ≤ (cutB B).length)
    (M0 := [bk b3 73 [.slice none 0 0], own 59 128 none 0 0 []]) ⟨none, 0, rfl, Nat.zero_le _⟩ (by exact selA) (fun _ _ => trivial) (fun v hv => by
      simp only [chunkV, List.mem_map] at hv
      obtain ⟨i, _, rfl⟩ := hv; rfl) ?_ ?_
  · rintro ly ⟨st, pd, rfn, rtm, rps, ras, rbd, rdf⟩ k v M y e1 hk ⟨a1, c1, rfl, hkl⟩ hst hpd hy
    dsimp only at hst hpd
    subst hst; subst hpd
    have hk2 : k < (cutB B).length := by rw [← hlen]; exact (List.getElem?_eq_some_iff.1 hk).1
    have hk3 : k * 128 < 4 + B.length := by rw [cut_len] at hk2; omega
    rw [chunkV_at hk3] at hk
    obtain rfl := Option.some.inj hk
    have hry : rdx (some ⟨g, 0, none⟩) (4 + B.length) (cb (rowB B)) y := rdx_own (e := 5) (by first | exact pickA | exact updA) hRl.symm y hy
    clear hy
    have hpl : ((((rowB B).drop (k * 128)).take 128)).length = min 128 (4 + B.length - k * 128) := by simp [hRl]
    have hpart : rdx (some ⟨g, k * 128, none⟩) (min 128 (4 + B.length - k * 128)) (cb (((rowB B).drop (k * 128)).take 128)) y := by
      have := rdx_part rfl hry hRl.symm (k * 128) (min 128 (4 + B.length - k * 128)) (by omega)
      rw [Nat.zero_add] at this
      have e2 : (((rowB B).drop (k * 128)).take (min 128 (4 + B.length - k * 128))) = ((rowB B).drop (k * 128)).take 128 := by
        exact List.take_eq_take_iff.2 (by simp [hRl])
      rw [e2] at this; exact this
    have hX : (cutB B)[k] = padB 128 (((rowB B).drop (k * 128)).take 128) := chop_at (rowB B) k hk2
    have hW : WB (cutB B)[k] := chop_WB (rowB B) _ (List.getElem_mem hk2)
    have htk : flat ((cutB B).take (k + 1)) = flat ((cutB B).take k) ++ cb (cutB B)[k] := by
      rw [List.take_succ_eq_append_getElem hk2]; unfold flat; rw [rows_append]; simp [rows]
    generalize ((rowB B).drop (k * 128)).take 128 = p at *
    have hm : min 128 (4 + B.length - k * 128) ≤ 128 := Nat.min_le_left _ _
    generalize min 128 (4 + B.length - k * 128) = m at *
    simp only [putEs]
    refine wqk ?_
    refine CQ.begin rfl (by first | exact pickA | exact updA) ?_
    refine wqk ?_
    refine CX.allocZ (cb zblk) ?_
    intro q
    refine wqk ?_
    refine CX.ps (PS.sliceArr (l := 0) (h := 128) rfl rfl rfl rfl (.inl ⟨rfl, rfl⟩) (.inl ⟨rfl, rfl⟩) (by omega) (by omega)) ?_
    rw [cutAt_zero]
    refine wqk ?_
    refine CX.copyBk (m := m) (news := cb p) rfl rfl rfl (rdS_of1 (rdx_ex (by first | exact pickA | exact updA) hpart) hpl.symm) (by first | exact pickA | exact updA) (Nat.min_eq_left (by simpa using hm)).symm (by rw [WB_z.len]; omega) ?_
    rw [set_pad hpl hm, ← hX]
    refine wqk ?_
    (apply CX.ps; (· apply PS.loadG (vs := cb (cutB B)[k]); (· rfl); (· rfl); (· exact CellsAt.all (by first | exact pickA | exact updA)); (· exact hW.len)))
    refine CX.buildSl (parts := [(0, _)]) (vs := [(0, .agg (cb (cutB B)[k]).toArray)]) (out := cb (cutB B)[k]) rfl rfl (by decide) (fill_one hW.len (by simp)) fun bq => ?_
    refine CX.append (m := 1) (news := cb (cutB B)[k]) rfl rfl rfl (by first | exact pickA | exact updA) (RdS.pick (b := bq) (o := 0) (by first | exact pickA | exact updA) hW.len (one_cb _) (by rw [List.drop_zero, List.take_of_length_le (by rw [hW.len]; omega)])) (by rw [cut_len] at hk2; omega) (fun h => by cases h) ?_
    intro a3 c3
    rw [← htk]
    refine wqk ?_
    refine CQ.endRound (by first | exact pickA | exact updA) ⟨rfl, [bk b3 73 [.slice a3 (k + 1) c3], own 59 128 a3 (k + 1) c3 (flat ((cutB B).take (k + 1)))], rfl, a3, c3, rfl, by omega⟩ (by exact selA)
  · rintro D M ⟨a1, c1, rfl, hk⟩
    rw [hlen] at *
    rw [List.take_length]
    refine wdk ?_
    refine CQ.endD1 rfl (by first | exact pickA | exact updA) (.tmp rfl) ⟨a1, c1, rfl, rfl⟩ (by exact selA)
end Go.Proofs.YtlckhaodecdbbaaGreatDoor
/-! Stepping through a region in which two operations may come either way round. No program in sight. -/
namespace Go.Cx
/-- An order with forks. -/
inductive Pl
  | nil
  | op (i k : Nat) (p : Pl)
  | fork (i j : Nat) (p q : Pl)
def Pl.len : Pl → Nat
  | .nil => 0
  | .op _ _ p => p.len + 1
  | .fork _ _ p _ => p.len + 1
def plB (ops : Array Oper) (T : Nat → Bool) : Pl → Array Bool → Bool
  | .nil, listed => (Region.ready .any ops listed).isEmpty
  | .op i k p, listed =>
    (if k ≤ 1 then (Region.ready .any ops listed).contains i && Region.free .any ops listed i &&
        (k == 0 || (List.range ops.size).all fun j => !T j || ((ops[j]?).map fun oj => oj.after.any fun e => Region.binds .any e && e.on == i).getD true)
      else Region.ready .any ops listed == [i] && (k == 3 || !T i)) && plB ops T p (listed.setIfInBounds i true)
  | .fork i j p q, listed => (Region.ready .any ops listed == [i, j] && (p.len == q.len)) && (plB ops T p (listed.setIfInBounds i true) && plB ops T q (listed.setIfInBounds j true))
def CP (P : Program) (ops : Array Oper) (Q : Exit → Act → World → Prop) (n : Nat) (e0 : World) (T : Nat → Bool) (R : List Assn) (env : Env) (L : List Assn) (s : Pl) : Prop :=
  Region.noSelect ops = true → ∀ listed, plB ops T s listed = true → ∀ a w, Fr n env a → Sep L w.ph → Env0 e0 w → wpAnyT P ops (NoPanic Q) (fun w => Sep R w.ph) T s.len listed a w
section
variable {P : Program} {ops : Array Oper} {Q : Exit → Act → World → Prop} {n : Nat} {e0 : World} {env : Env} {L R : List Assn} {s p q : Pl} {T : Nat → Bool}
variable {dst : Option Tmp} {ty : TypeId} {pos : String} {aft : Array Edge} {g : Option (Nat × Bool)} {op : Op}
theorem CP.nil (h : CQ (Q .normal) n e0 env L) : CP P ops Q n e0 T R env L .nil := fun hsel listed hB a w hf hs he => by
  refine ⟨?_, h a w hf hs he⟩
  simpa [plB] using hB
theorem CP.pure {i : Nat} {v : Value} (h : CP P ops Q n e0 T R (putE env dst v) L s) (ho : ops[i]? = some ⟨dst, op, ty, pos, aft, g⟩ := by rfl) (hp : PS P ops n env [] ⟨dst, op, ty, pos, aft, g⟩ v := by first | (apply PS.cmpT; (· rfl); (· rfl); (· first | assumption | omega | rfl | decide)) | (apply PS.cmpF; (· rfl); (· rfl); (· first | assumption | omega | rfl | decide)) | (apply PS.cmp <;> rfl) | (apply PS.notD <;> rfl) | (apply PS.auto <;> rfl) | (apply PS.fieldAddr <;> rfl) | (apply PS.load; (· rfl); (· rfl); (· apply CellAt.pick; (· first | exact pickA | exact updA); (· rfl))) | (apply PS.arith; (· rfl); (· rfl); (· simp only [inR]; omega)) | (apply PS.convR; (· rfl); (· rfl); (· simp only [inR]; omega)) | (apply PS.lenSl <;> rfl) | (apply PS.capSl <;> rfl) | (apply PS.maxI <;> rfl) | (apply PS.minI <;> rfl) | (apply PS.eqlPtrNil <;> rfl) | (apply PS.neqPtrNil <;> rfl) | (apply PS.eqlSlNil <;> rfl) | (apply PS.makeFunc <;> rfl) | (apply PS.fieldS <;> rfl)) : CP P ops Q n e0 T R env L (.op i 0 s) := fun hsel listed hB a w hf hs he => by
  simp only [plB, Nat.zero_le, if_true, Bool.and_eq_true] at hB
  exact wpAnyT_first (rd := false) ho (Region.noSelect_spec hsel) (fun _ _ _ h => h.elim) (fun h => by cases h) _ _ _ _ (Region.free_spec ho hB.1.1.2) (by simpa using hB.1.1.1)
    (.inl ⟨gd_wanted hf hp.1, fun w' hs' => hp.2 a w' hf trivial⟩) (fun h => by cases h) (h hsel _ hB.2 _ _ (hf.put dst v) hs he)
theorem CP.read {i : Nat} {v : Value} {M : List Assn} (h : CP P ops Q n e0 T R (putE env dst v) L s) (ho : ops[i]? = some ⟨dst, op, ty, pos, aft, g⟩ := by rfl) (hp : PS P ops n env R ⟨dst, op, ty, pos, aft, g⟩ v := by first | (apply PS.cmpT; (· rfl); (· rfl); (· first | assumption | omega | rfl | decide)) | (apply PS.cmpF; (· rfl); (· rfl); (· first | assumption | omega | rfl | decide)) | (apply PS.cmp <;> rfl) | (apply PS.notD <;> rfl) | (apply PS.auto <;> rfl) | (apply PS.fieldAddr <;> rfl) | (apply PS.load; (· rfl); (· rfl); (· apply CellAt.pick; (· first | exact pickA | exact updA); (· rfl))) | (apply PS.arith; (· rfl); (· rfl); (· simp only [inR]; omega)) | (apply PS.convR; (· rfl); (· rfl); (· simp only [inR]; omega)) | (apply PS.lenSl <;> rfl) | (apply PS.capSl <;> rfl) | (apply PS.maxI <;> rfl) | (apply PS.minI <;> rfl) | (apply PS.eqlPtrNil <;> rfl) | (apply PS.neqPtrNil <;> rfl) | (apply PS.eqlSlNil <;> rfl) | (apply PS.makeFunc <;> rfl) | (apply PS.fieldS <;> rfl)) (hr : Sel L R M := by exact selA) : CP P ops Q n e0 T R env L (.op i 1 s) := fun hsel listed hB a w hf hs he => by
  simp only [plB, Nat.le_refl, if_true, Bool.and_eq_true, Bool.or_eq_true, List.all_eq_true] at hB
  refine wpAnyT_first (rd := true) ho (Region.noSelect_spec hsel) (fun _ _ _ h => h.elim) (fun _ j oj hj hTj => ?_) _ _ _ _ (Region.free_spec ho hB.1.1.2) (by simpa using hB.1.1.1)
    (.inl ⟨gd_wanted hf hp.1, fun w' hs' => hp.2 a w' hf (hs' rfl)⟩) (fun _ => (hr.sep hs).left) (h hsel _ hB.2 _ _ (hf.put dst v) hs he)
  rcases hB.1.2 with h1 | h1
  · simp at h1
  · have := h1 j (by simpa using (Array.getElem?_eq_some_iff.1 hj).1)
    simp only [hTj, Bool.not_true, Bool.false_or, hj, Option.map_some, Option.getD_some, Array.any_eq_true', Bool.and_eq_true, beq_iff_eq] at this
    rcases this with h2 | h2
    · cases h2
    · exact h2
/-- One operation, as a region of its own. -/
theorem CX.wpOp {i : Nat} {o : Oper} {K : Act → World → Prop} {a : Act} {w : World} (ho : ops[i]? = some o) (h : CX P ops (Exit.then K (NoPanic Q)) n e0 env L [o]) (hf : Fr n env a) (hs : Sep L w.ph) (he : Env0 e0 w) : Go.wpOp P ops (NoPanic Q) i K a w := by
  have := h a w hf hs he
  simp only [Go.wpOp, ho]
  unfold wpList at this
  split at this
  · rename_i hw
    simp only [hw, if_true]
    rcases this with h1 | ⟨h1, a0, w0, h2⟩
    · refine .inl ?_
      unfold Oper.wp at *
      generalize (execOp a.eval o).run P w = r at *
      cases r with
      | ok x w' =>
        cases x <;> simp only [Oper.upon] at h1 ⊢ <;> first
          | exact h1
          | exact h1.elim
          | exact Calls.mono h1 (fun e w'' h3 => by cases e <;> exact h3)
          | exact Rows.mono h1 (fun _ _ h3 => h3)
      | halt x w' => cases x <;> simp only [Oper.upon] at h1 ⊢ <;> exact h1
    · exact .inr ⟨h1, a0, w0, h2⟩
  · rename_i hw
    simp only [hw, if_false, Bool.false_eq_true]
    exact this
theorem CP.act {i k : Nat} {o : Oper}
    (h : ∀ K : Act → World → Prop, (∀ env' L' M, Sel L' R M → CP P ops Q n e0 T R env' L' s → CQ K n e0 env' L') → CX P ops (Exit.then K (NoPanic Q)) n e0 env L [o]) (hk : Nat.ble k 1 = false := by rfl) (ho : ops[i]? = some o := by rfl) :
    CP P ops Q n e0 T R env L (.op i k s) := fun hsel listed hB a w hf hs he => by
  have hk' : ¬ k ≤ 1 := fun h => by have := Nat.ble_eq_true_of_le h; rw [hk] at this; cases this
  simp only [plB, hk', if_false, Bool.and_eq_true, beq_iff_eq] at hB
  refine ⟨fun h0 => (by rw [hB.1.1] at h0; cases h0), fun j hj => ?_⟩
  rw [hB.1.1] at hj
  obtain rfl : j = i := by simpa using hj
  exact CX.wpOp ho (h _ fun env' L' M hm hch a' w' hf' hs' he' => ⟨fun _ _ => (hm.sep hs').left, hch hsel _ hB.2 a' w' hf' hs' he'⟩) hf hs he
/-- What comes last may leave what was read. -/
theorem CP.last {i : Nat} {o : Oper}
    (h : ∀ K : Act → World → Prop, (∀ env' L', CP P ops Q n e0 T R env' L' s → CQ K n e0 env' L') → CX P ops (Exit.then K (NoPanic Q)) n e0 env L [o]) (hT : T i = true := by rfl) (ho : ops[i]? = some o := by rfl) :
    CP P ops Q n e0 T R env L (.op i 3 s) := fun hsel listed hB a w hf hs he => by
  simp only [plB, show ¬ 3 ≤ 1 by omega, if_false, Bool.and_eq_true, beq_iff_eq] at hB
  refine ⟨fun h0 => (by rw [hB.1.1] at h0; cases h0), fun j hj => ?_⟩
  rw [hB.1.1] at hj
  obtain rfl : j = i := by simpa using hj
  exact CX.wpOp ho (h _ fun env' L' hch a' w' hf' hs' he' => ⟨fun hf _ => (by rw [hT] at hf; cases hf), hch hsel _ hB.2 a' w' hf' hs' he'⟩) hf hs he
/-- Either way round. -/
theorem CP.fork {i j : Nat} {oi oj : Oper}
    (h1 : ∀ K : Act → World → Prop, (∀ env' L' M, Sel L' R M → CP P ops Q n e0 T R env' L' p → CQ K n e0 env' L') → CX P ops (Exit.then K (NoPanic Q)) n e0 env L [oi])
    (h2 : ∀ K : Act → World → Prop, (∀ env' L' M, Sel L' R M → CP P ops Q n e0 T R env' L' q → CQ K n e0 env' L') → CX P ops (Exit.then K (NoPanic Q)) n e0 env L [oj]) (hoi : ops[i]? = some oi := by rfl) (hoj : ops[j]? = some oj := by rfl) :
    CP P ops Q n e0 T R env L (.fork i j p q) := fun hsel listed hB a w hf hs he => by
  simp only [plB, Bool.and_eq_true, beq_iff_eq] at hB
  obtain ⟨⟨hr, hlen⟩, hp, hq⟩ := hB
  refine ⟨fun h0 => (by rw [hr] at h0; cases h0), fun z hz => ?_⟩
  rw [hr] at hz
  rcases List.mem_cons.1 hz with rfl | hz
  · exact CX.wpOp hoi (h1 _ fun env' L' M hm hch a' w' hf' hs' he' => ⟨fun _ _ => (hm.sep hs').left, hch hsel _ hp a' w' hf' hs' he'⟩) hf hs he
  · obtain rfl : z = j := by simpa using hz
    exact CX.wpOp hoj (h2 _ fun env' L' M hm hch a' w' hf' hs' he' => ⟨fun _ _ => (hm.sep hs').left, by have := hch hsel _ hq a' w' hf' hs' he'; rw [← hlen] at this; exact this⟩) hf hs he
theorem CC.drawP {id : Nat} {l : List Oper} (s : Pl) (T : Nat → Bool) (hm : P.follows .mixedOrders = true) (hl : l.length = s.len) (hB : plB l.toArray T s (Array.replicate l.length false) = true)
    (hns : Region.noSelect l.toArray = true) (R : List Assn) (h : CP P l.toArray Q n e0 T R env L s) : CC P (.region id l.toArray true) Q n e0 env L := fun a w hf hs he => by
  refine wp_region_noPanic (wp_region_any hm (wpAny_of_T (S := fun w => Sep R w.ph) (T := T) _ _ _ _ ?_))
  have := h hns (Array.replicate l.length false) hB a { w with drawn := w.drawn + 1 } hf hs (he.trans ⟨rfl, rfl, rfl⟩)
  simpa [hl] using this
end
theorem hqk {p q : Prop} (h : q) (k : Hd q → p := by intro h; (repeat (first | refine CP.pure ?_ | refine CP.read ?_ | refine CP.nil ?_)); exact h.g) : p := k ⟨h⟩
end Go.Cx
/-! Sealed blocks (seal), in the program: what is read. -/
namespace Go.Proofs.YtlckhaodecdbbaaGreatDoor
open Go.Cx
attribute [local irreducible] Go.Cx.CX Go.Cx.CC Go.Cx.CQ Go.Cx.PS Go.Cx.Ctr Go.Cx.CH
set_option maxRecDepth 10000
/-- What Get answers. -/
def GotM (B : Blk) (v : Value) (M : List Assn) : Prop :=
  ∃ a c, v = .tuple #[.int .u64 ((getM B).1 : Int), .slice a (getM B).2.1.length c, .int .i64 (getM B).2.2] ∧ M = [own 5 1 a (getM B).2.1.length c (cb (getM B).2.1)]
/-- The same, and all of its memory. -/
def GotF (B : Blk) (v : Value) (M : List Assn) : Prop :=
  ∃ a c Z, v = .tuple #[.int .u64 ((getM B).1 : Int), .slice a (getM B).2.1.length c, .int .i64 (getM B).2.2] ∧ M = [own 5 1 a c c (cb Z)] ∧ Z.length = c ∧ (getM B).2.1.length ≤ c ∧ Z.take (getM B).2.1.length = (getM B).2.1 ∧ (a = none → c = 0)
theorem full_rdx {L L' : List Assn} {b t : Nat} {B : Blk} (hB : WB B) (p : Pick (bk b t (cb B)) L L') : ∀ y, Sep L y → rdx (some ⟨b, 0, none⟩) 128 (cb B) y := fun y hy => by
  have hB' : B.length = 128 := hB
  have := rdx_bk p 0 128 (by omega) y hy
  rwa [List.drop_zero, List.take_of_length_le (by omega)] at this
theorem sgetF_c (B : Blk) (hB : WB B) : Ctr Tryz.prog 164 [.agg (cb B).toArray] [] (fun _ => True) (GotF B) := by
  have hB' : B.length = 128 := hB
  have hl8 := valid_top hB
  refine Ctr.intro Tryz.func164 rfl Tryz.ntmps164 rfl fun x w hp => ?_
  refine wk ?_
  (refine CX.boxA ?_; intro r)
  refine wk ?_
  refine CX.callA (sbegin_c) ?_
  rintro _ _ ⟨rfl, rfl⟩
  refine wk ?_
  refine CX.callA (spget_c r 0 8 B hB (by omega) (by omega)) ?_ (hpre := by exact full_rdx hB (by first | exact pickA | exact updA))
  rintro _ _ ⟨rfl, rfl⟩
  rw [List.drop_zero]
  by_cases h1 : ofLe (B.take 8) = 0
  · have e : getM B = (0, [], 5) := by unfold getM; rw [if_pos (.inl (by omega))]
    rw [h1]
    refine wk ?_
    refine CQ.ownNil 5 1 ?_
    (apply CQ.end3; (· rfl); (· exact .tmp rfl); (· exact .tmp rfl); (· exact .tmp rfl))
    · exact (show GotF B _ [own 5 1 none 0 0 (cb [])] from ⟨none, 0, [], by rw [e]; rfl, rfl, rfl, by rw [e]; exact Nat.le_refl _, by rw [e]; rfl, fun _ => rfl⟩)
    · exact selA
  refine wk ?_
  refine CX.callA (send_c) ?_
  rintro _ _ ⟨rfl, rfl⟩
  refine wk ?_
  refine CX.callA (spget_c r 120 8 B hB (by omega) (by omega)) ?_ (hpre := by exact full_rdx hB (by first | exact pickA | exact updA))
  rintro _ _ ⟨rfl, rfl⟩
  rw [show (B.drop 120).take 8 = B.drop 120 from List.take_of_length_le (by simp; omega)]
  refine wk ?_
  refine CX.ps (PS.not64 (ofLe (B.take 8)) hl8 rfl rfl) ?_
  rw [show 18446744073709551615 - ofLe (B.take 8) = top - ofLe (B.take 8) from rfl]
  by_cases h2 : ofLe (B.drop 120) = top - ofLe (B.take 8)
  · refine wk ?_
    refine CX.callA (scheck_c) ?_
    rintro _ _ ⟨rfl, rfl⟩
    refine wk ?_
    refine CX.callA (spget_c r 116 4 B hB (by omega) (by omega)) ?_ (hpre := by exact full_rdx hB (by first | exact pickA | exact updA))
    rintro _ _ ⟨rfl, rfl⟩
    refine wk ?_
    refine CX.callA (ssum_c r B hB) ?_ (hpre := by exact full_rdx hB (by first | exact pickA | exact updA))
    rintro _ _ ⟨rfl, rfl⟩
    by_cases h3 : ofLe ((B.drop 116).take 4) = crcM (B.take 116)
    · have e : getM B = (ofLe (B.take 8), (B.drop 8).take 108, 0) := by unfold getM; rw [if_neg (by omega), if_neg (by omega)]
      have hl : ((B.drop 8).take 108).length = 108 := by simp; omega
      refine wk ?_
      refine CX.buildSl0 ?_
      intro s
      refine wk ?_
      refine CX.callA (sinner_c) ?_
      rintro _ _ ⟨rfl, rfl⟩
      refine wk ?_
      refine CX.callA (spof_c r 8 108 (by omega) (by omega)) ?_
      rintro _ _ ⟨rfl, rfl⟩
      refine wk ?_
      refine CX.appendF (C := (B.drop 8).take 108) hl (by omega) (by omega) (RdS.pick (t := 59) (cs := cb B) (by first | exact pickA | exact updA) (by simp; omega) (one_cb _) (by rw [cb_drop, cb_take])) ?_
      intro q cap Z hq1 hq2 hq3
      refine wk ?_
      (apply CQ.end3; (· rfl); (· exact .tmp rfl); (· exact .tmp rfl); (· exact .tmp rfl))
      · exact (show GotF B _ [own 5 1 (some ⟨q, 0, none⟩) cap cap (cb Z)] from ⟨some ⟨q, 0, none⟩, cap, Z, by rw [e]; dsimp only; rw [hl], rfl, hq2, by rw [e]; dsimp only; omega, by rw [e]; dsimp only; rw [hl]; exact hq3, fun h => by cases h⟩)
      · exact selA
    · have e : getM B = (0, [], 6) := by unfold getM; rw [if_neg (by omega), if_pos h3]
      refine wk ?_
      refine CQ.ownNil 5 1 ?_
      (apply CQ.end3; (· rfl); (· exact .tmp rfl); (· exact .tmp rfl); (· exact .tmp rfl))
      · exact (show GotF B _ [own 5 1 none 0 0 (cb [])] from ⟨none, 0, [], by rw [e]; rfl, rfl, rfl, by rw [e]; exact Nat.le_refl _, by rw [e]; rfl, fun _ => rfl⟩)
      · exact selA
  · have e : getM B = (0, [], 5) := by unfold getM; rw [if_pos (.inr h2)]
    refine wk ?_
    refine CQ.ownNil 5 1 ?_
    (apply CQ.end3; (· rfl); (· exact .tmp rfl); (· exact .tmp rfl); (· exact .tmp rfl))
    · exact (show GotF B _ [own 5 1 none 0 0 (cb [])] from ⟨none, 0, [], by rw [e]; rfl, rfl, rfl, by rw [e]; exact Nat.le_refl _, by rw [e]; rfl, fun _ => rfl⟩)
    · exact selA
theorem sget_c (B : Blk) (hB : WB B) : Ctr Tryz.prog 164 [.agg (cb B).toArray] [] (fun _ => True) (GotM B) :=
  (sgetF_c B hB).conseq fun v M ⟨a, c, Z, hv, hM, h1, h2, h3, _⟩ => ⟨_, ⟨a, c, hv, rfl⟩, fun x h hs => by
    subst hM
    have := own_front h2 h1 hs
    rw [h3] at this; exact this⟩
theorem snumbers_c (A B : Blk) (hA : WB A) (hB : WB B) : Ctr Tryz.prog 192 [.agg (cb A).toArray, .agg (cb B).toArray] [] (fun _ => True) (fun v M => v = .tuple #[.int .u64 ((getM A).1 : Int), .int .u64 ((getM B).1 : Int)] ∧ M = []) := by
  refine Ctr.intro Tryz.func192 rfl Tryz.ntmps192 rfl fun x w hp => ?_
  refine wk ?_
  (refine CX.boxA ?_; intro r)
  refine wk ?_
  (refine CX.boxA ?_; intro s)
  refine wk ?_
  ((apply CX.ps; (· apply PS.loadG (vs := cb (A)); (· rfl); (· rfl); (· exact CellsAt.all (by first | exact pickA | exact updA)); (· exact hA.len))))
  refine CX.callA (sget_c A hA) ?_
  rintro _ _ ⟨a, c, rfl, rfl⟩
  refine wk ?_
  ((apply CX.ps; (· apply PS.loadG (vs := cb (B)); (· rfl); (· rfl); (· exact CellsAt.all (by first | exact pickA | exact updA)); (· exact hB.len))))
  refine CX.callA (sget_c B hB) ?_
  rintro _ _ ⟨a', c', rfl, rfl⟩
  refine wk ?_
  (apply CQ.end2; (· rfl); (· exact .tmp rfl); (· exact .tmp rfl))
  · exact ⟨rfl, rfl⟩
  · exact selA
theorem snewest_c (A B : Blk) (hA : WB A) (hB : WB B) : Ctr Tryz.prog 178 [.agg (cb A).toArray, .agg (cb B).toArray] [] (fun _ => True) (fun v M => v = .tuple #[.int .i64 (newestM A B).1, .int .i64 (newestM A B).2] ∧ M = []) := by
  have hn := getM_lt A
  have hm := getM_lt B
  refine Ctr.intro Tryz.func178 rfl Tryz.ntmps178 rfl fun x w hp => ?_
  refine wk ?_
  (refine CX.boxA ?_; intro r)
  refine wk ?_
  (refine CX.boxA ?_; intro s)
  refine wk ?_
  ((apply CX.ps; (· apply PS.loadG (vs := cb (A)); (· rfl); (· rfl); (· exact CellsAt.all (by first | exact pickA | exact updA)); (· exact hA.len))))
  ((apply CX.ps; (· apply PS.loadG (vs := cb (B)); (· rfl); (· rfl); (· exact CellsAt.all (by first | exact pickA | exact updA)); (· exact hB.len))))
  refine CX.callA (snumbers_c A B hA hB) ?_
  rintro _ _ ⟨rfl, rfl⟩
  refine wk ?_
  refine CX.ps (PS.orN (k := .u64) (getM A).1 (getM B).1 rfl hn hm rfl rfl rfl) ?_
  by_cases h1 : (getM A).1 = 0 ∧ (getM B).1 = 0
  · have e : newestM A B = (0, 7) := by unfold newestM; rw [if_pos h1]
    rw [or_zero h1]
    refine wk ?_
    rw [e]
    (apply CQ.end2; (· rfl); (· exact .tmp rfl); (· exact .tmp rfl))
    · exact ⟨rfl, rfl⟩
    · exact selA
  have h3 := or_nz h1
  generalize (getM A).1 ||| (getM B).1 = q at h3
  by_cases h2 : (getM A).1 < (getM B).1
  · have e : newestM A B = (1, 0) := by unfold newestM; rw [if_neg h1, if_pos h2]
    refine wk ?_
    rw [e]
    (apply CQ.end2; (· rfl); (· exact .tmp rfl); (· exact .tmp rfl))
    · exact ⟨rfl, rfl⟩
    · exact selA
  · have e : newestM A B = (0, 0) := by unfold newestM; rw [if_neg h1, if_neg h2]
    refine wk ?_
    rw [e]
    (apply CQ.end2; (· rfl); (· exact .tmp rfl); (· exact .tmp rfl))
    · exact ⟨rfl, rfl⟩
    · exact selA
theorem snext_c (A B : Blk) (hA : WB A) (hB : WB B) : Ctr Tryz.prog 155 [.agg (cb A).toArray, .agg (cb B).toArray] [] (fun _ => True) (fun v M => v = .int .i64 (nextM A B) ∧ M = []) := by
  refine Ctr.intro Tryz.func155 rfl Tryz.ntmps155 rfl fun x w hp => ?_
  refine wk ?_
  (refine CX.boxA ?_; intro r)
  refine wk ?_
  (refine CX.boxA ?_; intro s)
  refine wk ?_
  ((apply CX.ps; (· apply PS.loadG (vs := cb (A)); (· rfl); (· rfl); (· exact CellsAt.all (by first | exact pickA | exact updA)); (· exact hA.len))))
  ((apply CX.ps; (· apply PS.loadG (vs := cb (B)); (· rfl); (· rfl); (· exact CellsAt.all (by first | exact pickA | exact updA)); (· exact hB.len))))
  by_cases h1 : (getM A).1 = 0 ∧ (getM B).1 = 0
  · have e : newestM A B = (0, 7) := by unfold newestM; rw [if_pos h1]
    have e2 : nextM A B = 0 := by unfold nextM; rw [if_pos h1]
    (have cc := snewest_c A B hA hB; simp only [e] at cc; refine CX.callA cc ?_; clear cc; rintro _ _ ⟨rfl, rfl⟩)
    refine wk ?_
    rw [e2]
    ((apply CQ.end1; (· rfl); (· exact .tmp rfl)); (· exact ⟨rfl, rfl⟩); (· exact selA))
  by_cases h2 : (getM A).1 < (getM B).1
  · have e : newestM A B = (1, 0) := by unfold newestM; rw [if_neg h1, if_pos h2]
    have e2 : nextM A B = 0 := by unfold nextM; rw [if_neg h1, if_pos h2]
    (have cc := snewest_c A B hA hB; simp only [e] at cc; refine CX.callA cc ?_; clear cc; rintro _ _ ⟨rfl, rfl⟩)
    refine wk ?_
    refine CX.ps (PS.xorI 1 1 (by decide) (by decide) rfl rfl rfl) ?_
    refine wk ?_
    rw [e2]
    ((apply CQ.end1; (· rfl); (· exact .tmp rfl)); (· exact ⟨rfl, rfl⟩); (· exact selA))
  · have e : newestM A B = (0, 0) := by unfold newestM; rw [if_neg h1, if_neg h2]
    have e2 : nextM A B = 1 := by unfold nextM; rw [if_neg h1, if_neg h2]
    (have cc := snewest_c A B hA hB; simp only [e] at cc; refine CX.callA cc ?_; clear cc; rintro _ _ ⟨rfl, rfl⟩)
    refine wk ?_
    refine CX.ps (PS.xorI 0 1 (by decide) (by decide) rfl rfl rfl) ?_
    refine wk ?_
    rw [e2]
    ((apply CQ.end1; (· rfl); (· exact .tmp rfl)); (· exact ⟨rfl, rfl⟩); (· exact selA))
end Go.Proofs.YtlckhaodecdbbaaGreatDoor
/-! Heads (head), in the program. -/
namespace Go.Cx
def hc (h : HdM) : List Value := [.int .u8 (h.bank : Int), .int .u32 (h.blocks : Int), .int .u32 (h.batches : Int)]
def maxB (C : Blk) : Nat := C.foldl (fun m c => Max.max m c.toNat) 0
theorem maxB_snoc (C : Blk) (c : UInt8) : maxB (C ++ [c]) = Max.max (maxB C) c.toNat := by simp [maxB]
theorem maxB_pos (C : Blk) : 0 < maxB C ↔ ∃ c ∈ C, c ≠ 0 := by
  have key : ∀ (C : Blk) (m : Nat), 0 < C.foldl (fun m c => Max.max m c.toNat) m ↔ (0 < m ∨ ∃ c ∈ C, c ≠ 0) := by
    intro C
    induction C with
    | nil => intro m; simp
    | cons x C ih =>
      intro m
      rw [List.foldl_cons, ih]
      have hx : 0 < x.toNat ↔ x ≠ 0 := by
        constructor
        · intro h e; rw [e] at h; exact absurd h (by decide)
        · intro h; rcases Nat.eq_zero_or_pos x.toNat with h0 | h0
          · exact absurd (UInt8.toNat_inj.1 h0) h
          · exact h0
      simp only [List.mem_cons, exists_eq_or_imp, ← hx]
      generalize (∃ c, c ∈ C ∧ c ≠ 0) = q
      constructor
      · rintro (h | h)
        · by_cases h2 : 0 < m
          · exact .inl h2
          · exact .inr (.inl (by omega))
        · exact .inr (.inr h)
      · rintro (h | h | h)
        · exact .inl (by omega)
        · exact .inl (by omega)
        · exact .inr h
  have := key C 0
  simpa [maxB] using this
theorem maxB_lt (C : Blk) : maxB C < 256 := by
  have key : ∀ (C : Blk) (m : Nat), m < 256 → C.foldl (fun m c => Max.max m c.toNat) m < 256 := by
    intro C
    induction C with
    | nil => intro m h; exact h
    | cons x C ih => intro m h; have := x.toNat_lt; exact ih _ (by dsimp only; omega)
  exact key C 0 (by omega)
theorem getN_from {B : Blk} {k : Nat} (hk : k = 1 ∨ k = 2 ∨ k = 4 ∨ k = 8) (h : k ≤ B.length) : getN B 0 (k : Int) = (ofLe (B.take k), 0) := by
  unfold getN
  rw [if_neg (by unfold okSize; omega), if_neg (by omega)]
  simp
theorem ofLe_tk (B : Blk) (k : Nat) : ofLe (B.take k) < 256 ^ k := Nat.lt_of_lt_of_le (ofLe_lt (B.take k)) (Nat.pow_le_pow_right (by omega) (by simp; omega))
theorem rdx_tail {g : Nat} {len : Nat} {B : Blk} {y : PH} (h : rdx (some ⟨g, 0, none⟩) len (cb B) y) (hl : len = B.length) (k : Nat) (hk : k ≤ B.length) : rdx (some ⟨g, k, none⟩) (B.length - k) (cb (B.drop k)) y := by
  have := rdx_part rfl h hl k (B.length - k) (by omega)
  rwa [Nat.zero_add, List.take_of_length_le (by simp)] at this
end Go.Cx
namespace Go.Proofs.YtlckhaodecdbbaaGreatDoor
open Go.Cx
theorem run_eqHd (a b : HdM) (w : World) : (Op.equalIn 10000 121 (.agg (hc a).toArray) (.agg (hc b).toArray)).run Tryz.prog w = .ok (decide (a = b)) w := by
  have hu := Tryz.underlying121
  have hf : Tryz.prog.underlying 121 = some (.struct (Tryz.prog.fieldsOf 121)) := by simp only [Program.fieldsOf, hu]
  rw [run_equalIn_agg w 9999 121 _ _ hf Tryz.stoodInHeld121]
  simp only [Program.fieldsOf, hu]
  have e : (a = b) ↔ ((a.bank : Int) = b.bank ∧ (a.blocks : Int) = b.blocks ∧ (a.batches : Int) = b.batches) := by
    obtain ⟨a1, a2, a3⟩ := a
    obtain ⟨b1, b2, b3⟩ := b
    simp; omega
  simp only [Op.eqFields, part, hc]
  simp [Tryz.isAgg5, Tryz.isAgg63, run_equalIn_int w 9998 _ _ _ _ _ Tryz.underlying5, run_equalIn_int w 9998 _ _ _ _ _ Tryz.underlying63]
  by_cases h1 : (a.bank : Int) = b.bank
  · by_cases h2 : (a.blocks : Int) = b.blocks
    · by_cases h3 : (a.batches : Int) = b.batches
      · rw [if_pos h1, if_pos h2, if_pos h3, decide_eq_true (e.2 ⟨h1, h2, h3⟩)]
      · rw [if_pos h1, if_pos h2, if_neg h3, decide_eq_false (fun h => h3 (e.1 h).2.2)]
    · rw [if_pos h1, if_neg h2, decide_eq_false (fun h => h2 (e.1 h).2.1)]
  · rw [if_neg h1, decide_eq_false (fun h => h1 (e.1 h).1)]
section
variable {ops : Array Oper} {n : Nat} {env : Env} {L : List Assn}
variable {dst : Option Tmp} {ty : TypeId} {pos : String} {aft : Array Edge} {g : Option (Nat × Bool)}
theorem eqlHd {u : TypeId} {x y : Operand} {a b : HdM} (hg : gd ops n env g = some true) (hx : ev n env x = some (.agg (hc a).toArray)) (hy : ev n env y = some (.agg (hc b).toArray)) :
    PS Tryz.prog ops n env L ⟨dst, .binOp .eql 121 x y u, ty, pos, aft, g⟩ (.bool (decide (a = b))) :=
  ⟨hg, fun ac w hfr _ => by simp [execOp, hfr.eval hx, hfr.eval hy, run_eqGuard_agg w _ _ _ _ _ _ Tryz.eqGuardType121, run_eql_struct, run_eqHd]⟩
theorem neqHd {u : TypeId} {x y : Operand} {a b : HdM} (hg : gd ops n env g = some true) (hx : ev n env x = some (.agg (hc a).toArray)) (hy : ev n env y = some (.agg (hc b).toArray)) :
    PS Tryz.prog ops n env L ⟨dst, .binOp .neq 121 x y u, ty, pos, aft, g⟩ (.bool (decide (a ≠ b))) :=
  ⟨hg, fun ac w hfr _ => by simp [execOp, hfr.eval hx, hfr.eval hy, run_eqGuard_agg w _ _ _ _ _ _ Tryz.eqGuardType121, run_neq_struct, run_eqHd]⟩
end
attribute [local irreducible] Go.Cx.CX Go.Cx.CC Go.Cx.CQ Go.Cx.PS Go.Cx.Ctr Go.Cx.CH
set_option maxRecDepth 10000
theorem sizes_c : Ctr Tryz.prog 165 [] [] (fun _ => True) (fun v M => v = .agg #[.int .i64 1, .int .i64 4, .int .i64 4] ∧ M = []) := by
  refine Ctr.intro Tryz.func165 rfl Tryz.ntmps165 rfl fun x w hp => ?_
  refine wk ?_
  (refine CX.allocA ?_; intro r)
  refine wk ?_
  (apply CX.ps; (· apply PS.buildArr (out := [.int .i64 1, .int .i64 4, .int .i64 4]); (· rfl); (· rfl); (· rfl)))
  (refine CX.storeB (vs := [.int .i64 1, .int .i64 4, .int .i64 4]) ?_ ?_ ?_ ?_; (· rfl); (· rfl); (· exact one_all rfl))
  refine wk ?_
  ((apply CQ.end1; (· rfl); (· exact .cells inferInstance rfl (CellsAt.all (by first | exact pickA | exact updA)) (rfl))); (· exact ⟨rfl, rfl⟩); (· exact selA))
theorem may_c (h : HdM) : Ctr Tryz.prog 166 [.agg (hc h).toArray] [] (fun _ => True) (fun v M => v = .bool (decide h.may) ∧ M = []) := by
  refine Ctr.intro Tryz.func166 rfl Tryz.ntmps166 rfl fun x w hp => ?_
  refine wk ?_
  (refine CX.boxA (vs := hc h) ?_; intro r)
  by_cases h1 : h.bank < 2
  · by_cases h2 : h.blocks ≤ 4096
    · by_cases h3 : h.batches ≤ h.blocks
      · refine wk ?_
        ((apply CQ.end1; (· rfl); (· exact .tmp rfl)); (· exact ⟨by rw [decide_eq_true (show h.may from ⟨h1, h2, h3⟩)], rfl⟩); (· exact selA))
      · refine wk ?_
        ((apply CQ.end1; (· rfl); (· exact .tmp rfl)); (· exact ⟨by rw [decide_eq_false (show ¬ h.may from fun q => h3 q.2.2)], rfl⟩); (· exact selA))
    · refine wk ?_
      ((apply CQ.end1; (· rfl); (· exact .tmp rfl)); (· exact ⟨by rw [decide_eq_false (show ¬ h.may from fun q => h2 q.2.1)], rfl⟩); (· exact selA))
  · refine wk ?_
    ((apply CQ.end1; (· rfl); (· exact .tmp rfl)); (· exact ⟨by rw [decide_eq_false (show ¬ h.may from fun q => h1 q.1)], rfl⟩); (· exact selA))
theorem hput_c (n : Nat) (hn : n ≤ top) (h : HdM) (ok : h.ok) : Ctr Tryz.prog 154 [.int .u64 (n : Int), .agg (hc h).toArray] [] (fun _ => True) (fun v M => v = .tuple #[.agg (cb (putH n h).1).toArray, .int .i64 (putH n h).2] ∧ M = []) := by
  have o1 := ok.bank
  have o2 := ok.blocks
  have o3 := ok.batches
  refine Ctr.intro Tryz.func154 rfl Tryz.ntmps154 rfl fun x w hp => ?_
  refine wk ?_
  (refine CX.boxA (vs := hc h) ?_; intro r)
  (refine CX.allocZ (cb zblk) ?_; intro s)
  by_cases h1 : n = 0
  · have e : putH n h = (zblk, 2) := by unfold putH; rw [if_pos (.inl h1)]
    rw [e]
    refine wk ?_
    (apply CX.ps; (· apply PS.buildZ (vs := cb zblk); (· rfl); (· simp [cb_z, Value.cells])))
    (apply CX.storeAll; (· rfl); (· rfl); (· rfl); (· first | exact pickA | exact updA); (· exact WB_z.len); (· exact WB_z.len); (· exact one_cb _))
    refine wk ?_
    ((apply CQ.end2; (· rfl); (· exact .cells inferInstance rfl (CellsAt.all (by first | exact pickA | exact updA)) (WB_z.len)); (· exact .tmp rfl)); (· exact ⟨rfl, rfl⟩); (· exact selA))
  by_cases h2 : 4611686018427387904 < n
  · have e : putH n h = (zblk, 2) := by unfold putH; rw [if_pos (.inr (.inl h2))]
    rw [e]
    refine wk ?_
    (apply CX.ps; (· apply PS.buildZ (vs := cb zblk); (· rfl); (· simp [cb_z, Value.cells])))
    (apply CX.storeAll; (· rfl); (· rfl); (· rfl); (· first | exact pickA | exact updA); (· exact WB_z.len); (· exact WB_z.len); (· exact one_cb _))
    refine wk ?_
    ((apply CQ.end2; (· rfl); (· exact .cells inferInstance rfl (CellsAt.all (by first | exact pickA | exact updA)) (WB_z.len)); (· exact .tmp rfl)); (· exact ⟨rfl, rfl⟩); (· exact selA))
  by_cases h3 : h.may
  · have e : putH n h = (sealB n h.bytes, 0) := by unfold putH; rw [if_neg]; rintro (q | q | q) <;> first | exact h1 q | exact h2 q | exact q h3
    have ep : putM n h.bytes = (sealB n h.bytes, 0) := by unfold putM; rw [if_neg h1, if_neg (by rw [bytes_len]; omega)]
    have wB : WB (sealB n h.bytes) := sealB_WB (by rw [bytes_len]; omega)
    rw [e]
    refine wk ?_
    ((apply CX.ps; (· apply PS.loadG (vs := hc h); (· rfl); (· rfl); (· exact CellsAt.all (by first | exact pickA | exact updA)); (· rfl))))
    (have cc := may_c h; simp only [decide_eq_true h3] at cc; refine CX.callA cc ?_; clear cc; rintro _ _ ⟨rfl, rfl⟩)
    refine wk ?_
    (apply CX.ps; (· apply PS.buildArr (out := [.int .u64 (h.bank : Int), .int .u64 (h.blocks : Int), .int .u64 (h.batches : Int)]); (· rfl); (· rfl); (· rfl)))
    refine wk ?_
    refine CC.ownNil 5 1 ?_
    refine CC.loop (X := Nat × Option Addr × Nat × Blk) (fun q => [(33, .int .i64 (q.1 : Int)), (6, .slice q.2.1 q.2.2.2.length q.2.2.1), (32, .agg [.int .u64 (h.bank : Int), .int .u64 (h.blocks : Int), .int .u64 (h.batches : Int)].toArray), (0, .int .u64 (n : Int)), (4, .pointer (some ⟨s, 0, none⟩))])
      (fun q => [own 5 1 q.2.1 q.2.2.2.length q.2.2.1 (cb q.2.2.2), bk s 59 (cb zblk), exact x]) (fun q => (q.1 = 0 ∧ q.2.2.2 = []) ∨ (q.1 = 1 ∧ q.2.2.2 = le 1 h.bank) ∨ (q.1 = 2 ∧ q.2.2.2 = le 1 h.bank ++ le 4 h.blocks) ∨ (q.1 = 3 ∧ q.2.2.2 = h.bytes)) (fun q => 3 - q.1)
      (0, none, 0, []) (.inl ⟨rfl, rfl⟩) ⟨rfl, rfl, rfl, rfl, rfl, trivial⟩ (by exact selA) ?_
    have step : ∀ (B : Blk) (v k : Nat), v < 256 ^ k → True := fun _ _ _ _ => trivial
    rintro ⟨i, a, c, B⟩ (⟨e1, e2⟩ | ⟨e1, e2⟩ | ⟨e1, e2⟩ | ⟨e1, e2⟩) <;> dsimp only at e1 e2 <;> subst e1 <;> subst e2
    · refine wk ?_
      refine CX.ps (PS.indexS (j := 0) rfl rfl rfl rfl (by decide) rfl) ?_
      refine wk ?_
      refine CX.callA (sizes_c) ?_
      rintro _ _ ⟨rfl, rfl⟩
      refine wk ?_
      refine CX.ps (PS.indexS (j := 0) rfl rfl rfl rfl (by decide) rfl) ?_
      refine CX.callA (nput_c h.bank 1 (by omega) (by omega)) ?_
      rintro _ _ ⟨pb, rfl, rfl⟩
      refine wk ?_
      apply CX.append (m := 1) (news := cb (le 1 h.bank))
      · rfl
      · rfl
      · rfl
      · first | exact pickA | exact updA
      · exact RdS.own (by first | exact pickA | exact updA) (one_cb _) rfl
      · simp
      · intro hh; cases hh
      intro a' c'
      rw [← cb_append]
      refine wk ?_
      exact CQ.round (x := (0, a, c, [])) (1, a', c', le 1 h.bank) (.inr (.inl ⟨rfl, rfl⟩)) (by dsimp only; omega) ⟨rfl, rfl, rfl, rfl, rfl, trivial⟩ (by exact selA)
    · refine wk ?_
      refine CX.ps (PS.indexS (j := 1) rfl rfl rfl rfl (by decide) rfl) ?_
      refine wk ?_
      refine CX.callA (sizes_c) ?_
      rintro _ _ ⟨rfl, rfl⟩
      refine wk ?_
      refine CX.ps (PS.indexS (j := 1) rfl rfl rfl rfl (by decide) rfl) ?_
      refine CX.callA (nput_c h.blocks 4 (by omega) (by omega)) ?_
      rintro _ _ ⟨pb, rfl, rfl⟩
      refine wk ?_
      apply CX.append (m := 4) (news := cb (le 4 h.blocks))
      · rfl
      · rfl
      · rfl
      · first | exact pickA | exact updA
      · exact RdS.own (by first | exact pickA | exact updA) (one_cb _) rfl
      · simp
      · intro hh; cases hh
      intro a' c'
      rw [← cb_append]
      refine wk ?_
      exact CQ.round (x := (1, a, c, le 1 h.bank)) (2, a', c', le 1 h.bank ++ le 4 h.blocks) (.inr (.inr (.inl ⟨rfl, rfl⟩))) (by dsimp only; omega) ⟨rfl, rfl, rfl, rfl, rfl, trivial⟩ (by exact selA)
    · refine wk ?_
      refine CX.ps (PS.indexS (j := 2) rfl rfl rfl rfl (by decide) rfl) ?_
      refine wk ?_
      refine CX.callA (sizes_c) ?_
      rintro _ _ ⟨rfl, rfl⟩
      refine wk ?_
      refine CX.ps (PS.indexS (j := 2) rfl rfl rfl rfl (by decide) rfl) ?_
      refine CX.callA (nput_c h.batches 4 (by omega) (by omega)) ?_
      rintro _ _ ⟨pb, rfl, rfl⟩
      refine wk ?_
      apply CX.append (m := 4) (news := cb (le 4 h.batches))
      · rfl
      · rfl
      · rfl
      · first | exact pickA | exact updA
      · exact RdS.own (by first | exact pickA | exact updA) (one_cb _) rfl
      · simp
      · intro hh; cases hh
      intro a' c'
      rw [← cb_append, List.append_assoc]
      refine wk ?_
      exact CQ.round (x := (2, a, c, le 1 h.bank ++ le 4 h.blocks)) (3, a', c', h.bytes) (.inr (.inr (.inr ⟨rfl, rfl⟩))) (by dsimp only; omega) ⟨rfl, rfl, rfl, rfl, rfl, trivial⟩ (by exact selA)
    · dsimp only
      refine wk ?_
      (have cc := sput_c n hn h.bytes (by rw [bytes_len]; omega) a c; simp only [ep] at cc; refine CX.callA cc ?_ (hpre := by exact rdx_own (e := 5) (by first | exact pickA | exact updA) rfl); clear cc; rintro _ _ ⟨rfl, rfl⟩)
      refine wk ?_
      (apply CX.storeAll; (· rfl); (· rfl); (· rfl); (· first | exact pickA | exact updA); (· exact wB.len); (· exact WB_z.len); (· exact one_cb _))
      refine wk ?_
      ((apply CQ.end2; (· rfl); (· exact .cells inferInstance rfl (CellsAt.all (by first | exact pickA | exact updA)) (wB.len)); (· exact .tmp rfl)); (· exact ⟨rfl, rfl⟩); (· exact selA))
  · have e : putH n h = (zblk, 2) := by unfold putH; rw [if_pos (.inr (.inr h3))]
    rw [e]
    refine wk ?_
    ((apply CX.ps; (· apply PS.loadG (vs := hc h); (· rfl); (· rfl); (· exact CellsAt.all (by first | exact pickA | exact updA)); (· rfl))))
    (have cc := may_c h; simp only [decide_eq_false h3] at cc; refine CX.callA cc ?_; clear cc; rintro _ _ ⟨rfl, rfl⟩)
    refine wk ?_
    (apply CX.ps; (· apply PS.buildZ (vs := cb zblk); (· rfl); (· simp [cb_z, Value.cells])))
    (apply CX.storeAll; (· rfl); (· rfl); (· rfl); (· first | exact pickA | exact updA); (· exact WB_z.len); (· exact WB_z.len); (· exact one_cb _))
    refine wk ?_
    ((apply CQ.end2; (· rfl); (· exact .cells inferInstance rfl (CellsAt.all (by first | exact pickA | exact updA)) (WB_z.len)); (· exact .tmp rfl)); (· exact ⟨rfl, rfl⟩); (· exact selA))
end Go.Proofs.YtlckhaodecdbbaaGreatDoor
/-! Heads (head), in the program: what is read. -/
namespace Go.Proofs.YtlckhaodecdbbaaGreatDoor
open Go.Cx
attribute [local irreducible] Go.Cx.CX Go.Cx.CC Go.Cx.CQ Go.Cx.PS Go.Cx.Ctr Go.Cx.CH
set_option maxRecDepth 10000
theorem slmax_c (C : Blk) (h0 : 0 < C.length) (hC : C.length ≤ 9223372036854775807) (a : Option Addr) (cap : Nat) : Ctr Tryz.prog 167 [.slice a C.length cap] [] (fun x => rdx a C.length (cb C) x) (fun v M => v = .int .u8 (maxB C : Int) ∧ M = []) := by
  refine Ctr.intro Tryz.func167 rfl Tryz.ntmps167 rfl fun x w hp => ?_
  obtain ⟨g, off, rfl⟩ := rdx_some hp h0
  have e1 : maxB (C.take 1) = C[0].toNat := by
    rw [List.take_succ_eq_append_getElem h0, maxB_snoc]; simp [maxB]
  refine wk ?_
  (refine CX.indexA (0) ?_ ?_; (· exact h0))
  (refine CX.loadA _ (CellAt.rd (j := 0) (by first | exact pickA | exact updA) hp rfl h0) ?_)
  rw [← e1]
  refine wk ?_
  refine CC.loop (X := Nat) (fun i => [(4, .int .i64 (i : Int)), (3, .int .u8 (maxB (C.take i) : Int)), (0, .slice (some ⟨g, off, none⟩) C.length cap)])
    (fun i => [exact x]) (fun i => 1 ≤ i ∧ i ≤ C.length) (fun i => C.length - i) 1 ⟨Nat.le_refl _, h0⟩ ⟨rfl, rfl, rfl, trivial⟩ (by exact selA) ?_
  rintro i ⟨hi0, hi⟩
  by_cases h1 : i < C.length
  · have e2 : maxB (C.take (i + 1)) = Max.max (maxB (C.take i)) C[i].toNat := by rw [List.take_succ_eq_append_getElem h1, maxB_snoc]
    refine wk ?_
    (refine CX.indexA (i) ?_ ?_; (· exact h1))
    (refine CX.loadA _ (CellAt.rd (j := i) (by first | exact pickA | exact updA) hp rfl h1) ?_)
    refine wk ?_
    exact CQ.round (i + 1) ⟨by omega, by omega⟩ (by omega) ⟨eqI (by omega), eqI (by rw [e2]; omega), rfl, trivial⟩ (by exact selA)
  · obtain rfl : i = C.length := by omega
    rw [List.take_length]
    refine wk ?_
    ((apply CQ.end1; (· rfl); (· exact .tmp rfl)); (· exact ⟨rfl, rfl⟩); (· exact selA))
def GotH (B : Blk) (v : Value) (M : List Assn) : Prop := v = .tuple #[.int .u64 ((getH B).1 : Int), .agg (hc (getH B).2.1).toArray, .int .i64 (getH B).2.2] ∧ M = []
theorem hget_c (B : Blk) (hB : WB B) : Ctr Tryz.prog 137 [.agg (cb B).toArray] [] (fun _ => True) (GotH B) := by
  have hB' : B.length = 128 := hB
  refine Ctr.intro Tryz.func137 rfl Tryz.ntmps137 rfl fun x w hp => ?_
  refine wk ?_
  (refine CX.boxA ?_; intro r)
  refine wk ?_
  refine CX.allocZ (hc HdM.z) ?_ (hv := rfl)
  intro rh
  refine wk ?_
  ((apply CX.ps; (· apply PS.loadG (vs := cb (B)); (· rfl); (· rfl); (· exact CellsAt.all (by first | exact pickA | exact updA)); (· exact hB.len))))
  refine CX.callA (sget_c B hB) ?_
  rintro _ _ ⟨a, c, rfl, rfl⟩
  by_cases he : (getM B).2.2 = 0
  · have hv := get_valid he
    have g := get_ok hv
    have hl : ((B.drop 8).take 108).length = 108 := by simp; omega
    have eb : (getM B).2.1 = (B.drop 8).take 108 := by rw [g]
    have hn : (getM B).1 < 18446744073709551616 := getM_lt B
    rw [eb, hl, he]
    have hH : getH B = if most < (getM B).1 ∨ ¬ (ofBody ((B.drop 8).take 108)).may ∨ ∃ c ∈ ((B.drop 8).take 108).drop 9, c ≠ 0 then (0, HdM.z, 5) else ((getM B).1, ofBody ((B.drop 8).take 108), 0) := by
      unfold getH; rw [if_neg (by simp [he]), eb]
    generalize (B.drop 8).take 108 = D at hl hH
    generalize (getM B).1 = n at hn hH
    refine CX.fact (own_fact (e := 5) (by first | exact pickA | exact updA) (by omega)) ?_
    rintro ⟨hc1, q, rfl⟩
    refine wk ?_
    (refine CX.allocA ?_; intro rl)
    refine wk ?_
    refine CX.callA (sizes_c) ?_
    rintro _ _ ⟨rfl, rfl⟩
    refine wk ?_
    have b1 := ofLe_tk D 1
    have b2 := ofLe_tk (D.drop 1) 4
    have b3 := ofLe_tk (D.drop 5) 4
    refine CC.loop (X := Nat × Nat × List Value) (fun s => [(23, .int .i64 (s.1 : Int)), (6, .slice (some ⟨q, s.2.1, none⟩) (108 - s.2.1) (c - s.2.1)), (22, .agg #[.int .i64 1, .int .i64 4, .int .i64 4]), (8, .pointer (some ⟨rl, 0, none⟩)), (5, .int .u64 (n : Int)), (3, .pointer (some ⟨rh, 0, none⟩))])
      (fun s => [own 5 1 (some ⟨q, 0, none⟩) 108 c (cb D), bk rl 224 s.2.2, bk rh 121 (hc HdM.z), exact x])
      (fun s => s = (0, 0, [.int .u64 0, .int .u64 0, .int .u64 0]) ∨ s = (1, 1, [.int .u64 (ofLe (D.take 1) : Int), .int .u64 0, .int .u64 0]) ∨ s = (2, 5, [.int .u64 (ofLe (D.take 1) : Int), .int .u64 (ofLe ((D.drop 1).take 4) : Int), .int .u64 0]) ∨
        s = (3, 9, [.int .u64 (ofLe (D.take 1) : Int), .int .u64 (ofLe ((D.drop 1).take 4) : Int), .int .u64 (ofLe ((D.drop 5).take 4) : Int)])) (fun s => 3 - s.1)
      (0, 0, [.int .u64 0, .int .u64 0, .int .u64 0]) (.inl rfl) ⟨rfl, rfl, rfl, rfl, rfl, rfl, trivial⟩ (by exact selA) ?_
    have pre : ∀ {L L' : List Assn} (k : Nat), k ≤ 108 → Pick (own 5 1 (some ⟨q, 0, none⟩) 108 c (cb D)) L L' → ∀ y, Sep L y → rdx (some ⟨q, k, none⟩) (108 - k) (cb (D.drop k)) y := fun k hk p y hy => by
      have := rdx_tail (rdx_own p hl.symm y hy) hl.symm k (by omega)
      rwa [hl] at this
    have num : ∀ (k m : Nat), m = 1 ∨ m = 4 → k + m ≤ 108 → Ctr Tryz.prog 96 [.slice (some ⟨q, k, none⟩) (108 - k) (c - k), .int .i64 0, .int .i64 (m : Int)] [] (fun x => rdx (some ⟨q, k, none⟩) (108 - k) (cb (D.drop k)) x) (fun v M => v = .tuple #[.int .u64 (ofLe ((D.drop k).take m) : Int), .int .i64 0] ∧ M = []) := fun k m hm hk => by
      have cc := nget_c (D.drop k) (some ⟨q, k, none⟩) (c - k) 0 (m : Int) (by simp; omega) (by omega) (by omega)
      rw [getN_from (by omega) (by simp; omega)] at cc
      have e1 : (D.drop k).length = 108 - k := by simp [hl]
      rw [e1] at cc
      exact cc
    rintro ⟨i, o, cs⟩ (h | h | h | h) <;> simp only [Prod.mk.injEq] at h <;> obtain ⟨rfl, rfl, rfl⟩ := h
    · dsimp only
      refine wk ?_
      refine CX.ps (PS.indexS (j := 0) rfl rfl rfl rfl (by decide) rfl) ?_
      refine wk ?_
      refine CX.callA (num 0 1 (by omega) (by omega)) ?_ (hpre := by exact pre 0 (by omega) (by first | exact pickA | exact updA))
      rintro _ _ ⟨rfl, rfl⟩
      refine wk ?_
      refine CX.ps (PS.indexArr (j := 0) rfl rfl rfl rfl (by omega)) ?_
      refine wk ?_
      refine CX.ps (PS.sliceLo (l := 1) rfl rfl rfl rfl (by omega) (by omega)) ?_
      rw [if_neg (by omega)]
      refine wk ?_
      exact CQ.round (x := (0, 0, [.int .u64 0, .int .u64 0, .int .u64 0])) (1, 1, [.int .u64 (ofLe (D.take 1) : Int), .int .u64 0, .int .u64 0]) (.inr (.inl rfl)) (by dsimp only; omega) ⟨rfl, rfl, rfl, rfl, rfl, rfl, trivial⟩ (by exact selA)
    · dsimp only
      refine wk ?_
      refine CX.ps (PS.indexS (j := 1) rfl rfl rfl rfl (by decide) rfl) ?_
      refine wk ?_
      refine CX.callA (num 1 4 (by omega) (by omega)) ?_ (hpre := by exact pre 1 (by omega) (by first | exact pickA | exact updA))
      rintro _ _ ⟨rfl, rfl⟩
      refine wk ?_
      refine CX.ps (PS.indexArr (j := 1) rfl rfl rfl rfl (by omega)) ?_
      refine wk ?_
      refine CX.ps (PS.sliceLo (l := 4) rfl rfl rfl rfl (by omega) (by omega)) ?_
      rw [if_neg (by omega)]
      refine wk ?_
      exact CQ.round (x := (1, 1, [.int .u64 (ofLe (D.take 1) : Int), .int .u64 0, .int .u64 0])) (2, 5, [.int .u64 (ofLe (D.take 1) : Int), .int .u64 (ofLe ((D.drop 1).take 4) : Int), .int .u64 0]) (.inr (.inr (.inl rfl))) (by dsimp only; omega) ⟨rfl, slE2 (by first | rfl | (dsimp only; omega)) (by first | rfl | omega | (dsimp only; omega)), rfl, rfl, rfl, rfl, trivial⟩ (by exact selA)
    · dsimp only
      refine wk ?_
      refine CX.ps (PS.indexS (j := 2) rfl rfl rfl rfl (by decide) rfl) ?_
      refine wk ?_
      refine CX.callA (num 5 4 (by omega) (by omega)) ?_ (hpre := by exact pre 5 (by omega) (by first | exact pickA | exact updA))
      rintro _ _ ⟨rfl, rfl⟩
      refine wk ?_
      refine CX.ps (PS.indexArr (j := 2) rfl rfl rfl rfl (by omega)) ?_
      refine wk ?_
      refine CX.ps (PS.sliceLo (l := 4) rfl rfl rfl rfl (by omega) (by omega)) ?_
      rw [if_neg (by omega)]
      refine wk ?_
      exact CQ.round (x := (2, 5, [.int .u64 (ofLe (D.take 1) : Int), .int .u64 (ofLe ((D.drop 1).take 4) : Int), .int .u64 0])) (3, 9, [.int .u64 (ofLe (D.take 1) : Int), .int .u64 (ofLe ((D.drop 1).take 4) : Int), .int .u64 (ofLe ((D.drop 5).take 4) : Int)]) (.inr (.inr (.inr rfl))) (by dsimp only; omega) ⟨rfl, slE2 (by first | rfl | (dsimp only; omega)) (by first | rfl | omega | (dsimp only; omega)), rfl, rfl, rfl, rfl, trivial⟩ (by exact selA)
    · dsimp only
      refine wk ?_
      refine CX.ps (PS.indexArr (j := 0) rfl rfl rfl rfl (by omega)) ?_
      refine wk ?_
      refine CX.ps (PS.indexArr (j := 1) rfl rfl rfl rfl (by omega)) ?_
      refine wk ?_
      refine CX.ps (PS.indexArr (j := 2) rfl rfl rfl rfl (by omega)) ?_
      refine wk ?_
      (apply CX.ps; (· apply PS.build (out := hc (ofBody D)); (· rfl); (· rfl); (· rfl)))
      refine CX.allocZ (hc HdM.z) ?_ (hv := rfl)
      intro rk
      (refine CX.storeB (vs := hc (ofBody D)) ?_ ?_ ?_ ?_; (· rfl); (· rfl); (· exact one_all rfl))
      by_cases h1 : 4611686018427387904 < n
      · have e : getH B = (0, HdM.z, 5) := by rw [hH, if_pos (.inl h1)]
        refine wk ?_
        (apply CX.ps; (· apply PS.build (vs := []) (out := hc HdM.z); (· rfl); (· rfl); (· rfl)))
        refine wk ?_
        (refine CX.storeB (vs := hc HdM.z) ?_ ?_ ?_ ?_; (· rfl); (· rfl); (· exact one_all rfl))
        refine wk ?_
        (apply CQ.end3; (· rfl); (· exact .tmp rfl); (· exact .cells inferInstance rfl (CellsAt.all (by first | exact pickA | exact updA)) rfl); (· exact .tmp rfl))
        · exact ⟨by rw [e] <;> rfl, rfl⟩
        · exact selA
      by_cases h2 : (ofBody D).may
      · by_cases h3 : ∃ c ∈ D.drop 9, c ≠ 0
        · have e : getH B = (0, HdM.z, 5) := by rw [hH, if_pos (.inr (.inr h3))]
          have hm := (maxB_pos (D.drop 9)).2 h3
          refine wk ?_
          ((apply CX.ps; (· apply PS.loadG (vs := hc (ofBody D)); (· rfl); (· rfl); (· exact CellsAt.all (by first | exact pickA | exact updA)); (· rfl))))
          (have cc := may_c (ofBody D); simp only [decide_eq_true h2] at cc; refine CX.callA cc ?_; clear cc; rintro _ _ ⟨rfl, rfl⟩)
          refine wk ?_
          have cc := slmax_c (D.drop 9) (by simp; omega) (by simp; omega) (some ⟨q, 9, none⟩) (c - 9)
          rw [show (D.drop 9).length = 108 - 9 by simp [hl]] at cc
          refine CX.callA (cc) ?_ (hpre := by exact pre 9 (by omega) (by first | exact pickA | exact updA))
          clear cc
          rintro _ _ ⟨rfl, rfl⟩
          refine wk ?_
          (apply CX.ps; (· apply PS.build (vs := []) (out := hc HdM.z); (· rfl); (· rfl); (· rfl)))
          refine wk ?_
          (refine CX.storeB (vs := hc HdM.z) ?_ ?_ ?_ ?_; (· rfl); (· rfl); (· exact one_all rfl))
          refine wk ?_
          (apply CQ.end3; (· rfl); (· exact .tmp rfl); (· exact .cells inferInstance rfl (CellsAt.all (by first | exact pickA | exact updA)) rfl); (· exact .tmp rfl))
          · exact ⟨by rw [e] <;> rfl, rfl⟩
          · exact selA
        · have e : getH B = (n, ofBody D, 0) := by
            rw [hH, if_neg]; rintro (k | k | k)
            · exact h1 k
            · exact k h2
            · exact h3 k
          have hm : maxB (D.drop 9) = 0 := by
            rcases Nat.eq_zero_or_pos (maxB (D.drop 9)) with k | k
            · exact k
            · exact absurd ((maxB_pos _).1 k) h3
          refine wk ?_
          ((apply CX.ps; (· apply PS.loadG (vs := hc (ofBody D)); (· rfl); (· rfl); (· exact CellsAt.all (by first | exact pickA | exact updA)); (· rfl))))
          (have cc := may_c (ofBody D); simp only [decide_eq_true h2] at cc; refine CX.callA cc ?_; clear cc; rintro _ _ ⟨rfl, rfl⟩)
          refine wk ?_
          have cc := slmax_c (D.drop 9) (by simp; omega) (by simp; omega) (some ⟨q, 9, none⟩) (c - 9)
          rw [show (D.drop 9).length = 108 - 9 by simp [hl], hm] at cc
          refine CX.callA (cc) ?_ (hpre := by exact pre 9 (by omega) (by first | exact pickA | exact updA))
          clear cc
          rintro _ _ ⟨rfl, rfl⟩
          refine wk ?_
          refine CC.draw [(0, 0), (1, 1), (2, 0), (3, 3), (4, 0)] mixed rfl (by kernel_rfl) (by kernel_rfl) [bk rk 121 (hc (ofBody D))] ?_
          refine hwk ?_
          (apply CH.read; (· rfl); (· apply PS.loadG (vs := hc (ofBody D)); (· rfl); (· rfl); (· exact CellsAt.all (by first | exact pickA | exact updA)); (· rfl)); (· exact selA))
          refine hwk ?_
          refine CH.tail rfl rfl fun K hK => ?_
          (refine CX.storeB (vs := hc (ofBody D)) ?_ ?_ ?_ ?_; (· rfl); (· rfl); (· exact one_all rfl))
          (refine CX.nil ?_; refine CQ.thenK ?_; apply hK; clear hK K)
          refine hwk ?_
          refine wk ?_
          (apply CQ.end3; (· rfl); (· exact .tmp rfl); (· exact .cells inferInstance rfl (CellsAt.all (by first | exact pickA | exact updA)) rfl); (· exact .tmp rfl))
          · exact ⟨by rw [e] <;> rfl, rfl⟩
          · exact selA
      · have e : getH B = (0, HdM.z, 5) := by rw [hH, if_pos (.inr (.inl h2))]
        refine wk ?_
        ((apply CX.ps; (· apply PS.loadG (vs := hc (ofBody D)); (· rfl); (· rfl); (· exact CellsAt.all (by first | exact pickA | exact updA)); (· rfl))))
        (have cc := may_c (ofBody D); simp only [decide_eq_false h2] at cc; refine CX.callA cc ?_; clear cc; rintro _ _ ⟨rfl, rfl⟩)
        refine wk ?_
        (apply CX.ps; (· apply PS.build (vs := []) (out := hc HdM.z); (· rfl); (· rfl); (· rfl)))
        refine wk ?_
        (refine CX.storeB (vs := hc HdM.z) ?_ ?_ ?_ ?_; (· rfl); (· rfl); (· exact one_all rfl))
        refine wk ?_
        (apply CQ.end3; (· rfl); (· exact .tmp rfl); (· exact .cells inferInstance rfl (CellsAt.all (by first | exact pickA | exact updA)) rfl); (· exact .tmp rfl))
        · exact ⟨by rw [e] <;> rfl, rfl⟩
        · exact selA
  · have e : getH B = (0, HdM.z, (getM B).2.2) := by unfold getH; rw [if_pos he]
    generalize (getM B).2.2 = er at he e
    refine wk ?_
    (apply CX.ps; (· apply PS.build (vs := []) (out := hc HdM.z); (· rfl); (· rfl); (· rfl)))
    refine wk ?_
    (refine CX.storeB (vs := hc HdM.z) ?_ ?_ ?_ ?_; (· rfl); (· rfl); (· exact one_all rfl))
    refine wk ?_
    (apply CQ.end3; (· rfl); (· exact .tmp rfl); (· exact .cells inferInstance rfl (CellsAt.all (by first | exact pickA | exact updA)) rfl); (· exact .tmp rfl))
    · exact ⟨by rw [e] <;> rfl, rfl⟩
    · exact selA
theorem hnewest_c (A B : Blk) (hA : WB A) (hB : WB B) : Ctr Tryz.prog 93 [.agg (cb A).toArray, .agg (cb B).toArray] [] (fun _ => True)
    (fun v M => v = .tuple #[.int .u64 ((newH A B).1 : Int), .agg (hc (newH A B).2.1).toArray, .int .i64 (newH A B).2.2] ∧ M = []) := by
  refine Ctr.intro Tryz.func93 rfl Tryz.ntmps93 rfl fun x w hp => ?_
  refine wk ?_
  (refine CX.boxA ?_; intro r)
  refine wk ?_
  (refine CX.boxA ?_; intro s)
  refine wk ?_
  refine CX.allocZ (hc HdM.z) ?_ (hv := rfl)
  intro ro
  refine wk ?_
  ((apply CX.ps; (· apply PS.loadG (vs := cb (A)); (· rfl); (· rfl); (· exact CellsAt.all (by first | exact pickA | exact updA)); (· exact hA.len))))
  refine CX.callA (hget_c A hA) ?_
  rintro _ _ ⟨rfl, rfl⟩
  refine wk ?_
  refine CX.allocZ (hc HdM.z) ?_ (hv := rfl)
  intro ra
  refine wk ?_
  (refine CX.storeB (vs := hc (getH A).2.1) ?_ ?_ ?_ ?_; (· rfl); (· rfl); (· exact one_all rfl))
  refine wk ?_
  ((apply CX.ps; (· apply PS.loadG (vs := cb (B)); (· rfl); (· rfl); (· exact CellsAt.all (by first | exact pickA | exact updA)); (· exact hB.len))))
  refine CX.callA (hget_c B hB) ?_
  rintro _ _ ⟨rfl, rfl⟩
  refine wk ?_
  refine CX.allocZ (hc HdM.z) ?_ (hv := rfl)
  intro rb
  refine wk ?_
  (refine CX.storeB (vs := hc (getH B).2.1) ?_ ?_ ?_ ?_; (· rfl); (· rfl); (· exact one_all rfl))
  have eN : newH A B = if (getH A).2.2 ≠ 0 ∧ (getH B).2.2 ≠ 0 then (0, HdM.z, 7) else if (getH A).2.2 ≠ 0 ∨ ((getH B).2.2 = 0 ∧ (getH A).1 < (getH B).1) then ((getH B).1, (getH B).2.1, 0) else ((getH A).1, (getH A).2.1, 0) := rfl
  generalize newH A B = N at eN
  generalize (getH A).2.2 = ea at eN
  generalize (getH B).2.2 = eb at eN
  generalize (getH A).1 = na at eN
  generalize (getH B).1 = nb at eN
  generalize (getH A).2.1 = ka at eN
  generalize (getH B).2.1 = kb at eN
  by_cases h1 : ea = 0
  · by_cases h2 : eb = 0 ∧ na < nb
    · obtain ⟨h3, h4⟩ := h2
      have e : N = (nb, kb, 0) := by rw [eN, if_neg (by simp [h1]), if_pos (.inr ⟨h3, h4⟩)]
      refine wk ?_
      refine CC.draw [(0, 0), (1, 1), (2, 0), (3, 3), (4, 0)] mixed rfl (by kernel_rfl) (by kernel_rfl) [bk rb 121 (hc kb)] ?_
      refine hwk ?_
      (apply CH.read; (· rfl); (· apply PS.loadG (vs := hc kb); (· rfl); (· rfl); (· exact CellsAt.all (by first | exact pickA | exact updA)); (· rfl)); (· exact selA))
      refine hwk ?_
      refine CH.tail rfl rfl fun K hK => ?_
      (refine CX.storeB (vs := hc kb) ?_ ?_ ?_ ?_; (· rfl); (· rfl); (· exact one_all rfl))
      (refine CX.nil ?_; refine CQ.thenK ?_; apply hK; clear hK K)
      refine hwk ?_
      refine wk ?_
      (apply CQ.end3; (· rfl); (· exact .tmp rfl); (· exact .cells inferInstance rfl (CellsAt.all (by first | exact pickA | exact updA)) rfl); (· exact .tmp rfl))
      · exact ⟨by rw [e] <;> rfl, rfl⟩
      · exact selA
    · have e : N = (na, ka, 0) := by rw [eN, if_neg (by simp [h1]), if_neg (by simp [h1]; omega)]
      by_cases h3 : eb = 0
      · have h4 : ¬ na < nb := fun q => h2 ⟨h3, q⟩
        refine wk ?_
        refine CC.draw [(0, 0), (1, 1), (2, 0), (3, 3), (4, 0)] mixed rfl (by kernel_rfl) (by kernel_rfl) [bk ra 121 (hc ka)] ?_
        refine hwk ?_
        (apply CH.read; (· rfl); (· apply PS.loadG (vs := hc ka); (· rfl); (· rfl); (· exact CellsAt.all (by first | exact pickA | exact updA)); (· rfl)); (· exact selA))
        refine hwk ?_
        refine CH.tail rfl rfl fun K hK => ?_
        (refine CX.storeB (vs := hc ka) ?_ ?_ ?_ ?_; (· rfl); (· rfl); (· exact one_all rfl))
        (refine CX.nil ?_; refine CQ.thenK ?_; apply hK; clear hK K)
        refine hwk ?_
        refine wk ?_
        (apply CQ.end3; (· rfl); (· exact .tmp rfl); (· exact .cells inferInstance rfl (CellsAt.all (by first | exact pickA | exact updA)) rfl); (· exact .tmp rfl))
        · exact ⟨by rw [e] <;> rfl, rfl⟩
        · exact selA
      · refine wk ?_
        refine CC.draw [(0, 0), (1, 1), (2, 0), (3, 3), (4, 0)] mixed rfl (by kernel_rfl) (by kernel_rfl) [bk ra 121 (hc ka)] ?_
        refine hwk ?_
        (apply CH.read; (· rfl); (· apply PS.loadG (vs := hc ka); (· rfl); (· rfl); (· exact CellsAt.all (by first | exact pickA | exact updA)); (· rfl)); (· exact selA))
        refine hwk ?_
        refine CH.tail rfl rfl fun K hK => ?_
        (refine CX.storeB (vs := hc ka) ?_ ?_ ?_ ?_; (· rfl); (· rfl); (· exact one_all rfl))
        (refine CX.nil ?_; refine CQ.thenK ?_; apply hK; clear hK K)
        refine hwk ?_
        refine wk ?_
        (apply CQ.end3; (· rfl); (· exact .tmp rfl); (· exact .cells inferInstance rfl (CellsAt.all (by first | exact pickA | exact updA)) rfl); (· exact .tmp rfl))
        · exact ⟨by rw [e] <;> rfl, rfl⟩
        · exact selA
  · by_cases h2 : eb = 0
    · have e : N = (nb, kb, 0) := by rw [eN, if_neg (by simp [h2]), if_pos (.inl h1)]
      refine wk ?_
      refine CC.draw [(0, 0), (1, 1), (2, 0), (3, 3), (4, 0)] mixed rfl (by kernel_rfl) (by kernel_rfl) [bk rb 121 (hc kb)] ?_
      refine hwk ?_
      (apply CH.read; (· rfl); (· apply PS.loadG (vs := hc kb); (· rfl); (· rfl); (· exact CellsAt.all (by first | exact pickA | exact updA)); (· rfl)); (· exact selA))
      refine hwk ?_
      refine CH.tail rfl rfl fun K hK => ?_
      (refine CX.storeB (vs := hc kb) ?_ ?_ ?_ ?_; (· rfl); (· rfl); (· exact one_all rfl))
      (refine CX.nil ?_; refine CQ.thenK ?_; apply hK; clear hK K)
      refine hwk ?_
      refine wk ?_
      (apply CQ.end3; (· rfl); (· exact .tmp rfl); (· exact .cells inferInstance rfl (CellsAt.all (by first | exact pickA | exact updA)) rfl); (· exact .tmp rfl))
      · exact ⟨by rw [e] <;> rfl, rfl⟩
      · exact selA
    · have e : N = (0, HdM.z, 7) := by rw [eN, if_pos ⟨h1, h2⟩]
      refine wk ?_
      (apply CX.ps; (· apply PS.build (vs := []) (out := hc HdM.z); (· rfl); (· rfl); (· rfl)))
      refine wk ?_
      (refine CX.storeB (vs := hc HdM.z) ?_ ?_ ?_ ?_; (· rfl); (· rfl); (· exact one_all rfl))
      refine wk ?_
      (apply CQ.end3; (· rfl); (· exact .tmp rfl); (· exact .cells inferInstance rfl (CellsAt.all (by first | exact pickA | exact updA)) rfl); (· exact .tmp rfl))
      · exact ⟨by rw [e] <;> rfl, rfl⟩
      · exact selA
end Go.Proofs.YtlckhaodecdbbaaGreatDoor
/-! The disk's methods: what each does, by the plain words of DkM. -/
namespace Go.Proofs.YtlckhaodecdbbaaGreatDoor
open Go.Cx
attribute [local irreducible] Go.Cx.CX Go.Cx.CC Go.Cx.CQ Go.Cx.PS Go.Cx.Ctr Go.Cx.CH
set_option maxRecDepth 10000

/-- A disk's struct and its two slices. -/
@[irreducible] def disk (p : Nat) (D : DS) : Assn :=
  exA (X := Nat × Nat × Option Addr × Nat) (fun _ => True) fun q =>
    [bk p 76 [.slice (some ⟨q.1, 0, none⟩) D.sure.length q.2.1, .slice q.2.2.1 D.loose.length q.2.2.2, .int .i64 D.left, .int .i64 (D.steps : Int), .bool D.dark],
     own 59 128 (some ⟨q.1, 0, none⟩) D.sure.length q.2.1 (flat D.sure), own 142 129 q.2.2.1 D.loose.length q.2.2.2 (flatL D.loose)]
theorem disk_eq (p : Nat) (D : DS) : disk p D = exA (X := Nat × Nat × Option Addr × Nat) (fun _ => True) fun q =>
    [bk p 76 [.slice (some ⟨q.1, 0, none⟩) D.sure.length q.2.1, .slice q.2.2.1 D.loose.length q.2.2.2, .int .i64 D.left, .int .i64 (D.steps : Int), .bool D.dark],
     own 59 128 (some ⟨q.1, 0, none⟩) D.sure.length q.2.1 (flat D.sure), own 142 129 q.2.2.1 D.loose.length q.2.2.2 (flatL D.loose)] := by unfold disk; rfl

theorem there_ok {D : DS} {n : Int} (h : D.there n = 0) : ∃ k : Nat, n = (k : Int) ∧ k < D.sure.length := by
  unfold DS.there errOf at h
  split at h
  · exact ⟨n.toNat, by omega, by omega⟩
  · cases h
theorem sure_at {D : DS} {N k : Nat} (h : D.wf N) (hk : k < D.sure.length) : ((flat D.sure).drop (0 + k * 128)).take (cb D.sure[k]).length = cb D.sure[k] := by
  have hl : ∀ x ∈ D.sure, (cb x).length = 128 := fun x hx => (h.wb x hx).len
  have := rows_get cb 128 D.sure hl k hk 0 128 (by omega)
  rw [Nat.zero_add, hl _ (by simp)]
  simp only [Nat.add_zero, List.drop_zero] at this
  rw [flat, this, List.take_of_length_le (by rw [hl _ (by simp)]; omega)]
theorem step_wf {D : DS} {N : Nat} (h : D.wf N) : D.step.2.wf (N + 1) := by
  have h1 := h.left0; have h2 := h.left1; have h3 := h.steps; have h4 := h.loose
  unfold DS.step
  split
  · exact ⟨h.lo, h.hi, h.wb, h.lb, h1, h2, by simp; omega, by simp; omega⟩
  · exact ⟨h.lo, h.hi, h.wb, h.lb, by simp; omega, by simp; omega, by simp; omega, by simp; omega⟩
theorem none_c (p : Nat) (D : DS) : Ctr Tryz.prog 49 [.pointer (some ⟨p, 0, none⟩)] [disk p D] (fun _ => True) (fun v M => v = .bool false ∧ M = [disk p D]) := by
  refine Ctr.intro Tryz.func49 rfl Tryz.ntmps49 rfl fun x w hp => ?_
  (refine CC.openL (disk_eq p _) (by first | exact pickA | exact updA) ?_; rintro ⟨sb, sc, la, lc⟩ -)
  refine wk ?_
  (refine CQ.shutL (disk_eq p D) (_, _, _, _) trivial (by exact selA) ?_)
  ((apply CQ.end1; (· rfl); (· exact .tmp rfl)); (· exact ⟨rfl, rfl⟩); (· exact selA))

theorem there_c (p : Nat) (D : DS) (n : Int) : Ctr Tryz.prog 71 [.pointer (some ⟨p, 0, none⟩), .int .i64 n] [disk p D] (fun _ => True) (fun v M => v = .int .i64 (D.there n) ∧ M = [disk p D]) := by
  refine Ctr.intro Tryz.func71 rfl Tryz.ntmps71 rfl fun x w hp => ?_
  refine wk ?_
  refine CX.callA (none_c p D) ?_
  rintro _ _ ⟨rfl, rfl⟩
  (refine CX.openL (disk_eq p _) (by first | exact pickA | exact updA) ?_; rintro ⟨sb, sc, la, lc⟩ -)
  by_cases h1 : n < 0
  · refine wk ?_
    (refine CQ.shutL (disk_eq p D) (_, _, _, _) trivial (by exact selA) ?_)
    ((apply CQ.end1; (· rfl); (· exact .tmp rfl)); (· exact ⟨by simp [DS.there, errOf]; omega, rfl⟩); (· exact selA))
  by_cases h2 : (D.sure.length : Int) ≤ n
  · refine wk ?_
    (refine CQ.shutL (disk_eq p D) (_, _, _, _) trivial (by exact selA) ?_)
    ((apply CQ.end1; (· rfl); (· exact .tmp rfl)); (· exact ⟨by simp [DS.there, errOf]; omega, rfl⟩); (· exact selA))
  · refine wk ?_
    (refine CQ.shutL (disk_eq p D) (_, _, _, _) trivial (by exact selA) ?_)
    ((apply CQ.end1; (· rfl); (· exact .tmp rfl)); (· exact ⟨by simp [DS.there, errOf]; omega, rfl⟩); (· exact selA))

theorem lit_c (p : Nat) (D : DS) (n : Int) : Ctr Tryz.prog 43 [.pointer (some ⟨p, 0, none⟩), .int .i64 n] [disk p D] (fun _ => True) (fun v M => v = .int .i64 (D.lit n) ∧ M = [disk p D]) := by
  obtain ⟨S, l, left, steps, dark⟩ := D
  refine Ctr.intro Tryz.func43 rfl Tryz.ntmps43 rfl fun x w hp => ?_
  refine wk ?_
  refine CX.callA (none_c p _) ?_
  rintro _ _ ⟨rfl, rfl⟩
  (refine CX.openL (disk_eq p _) (by first | exact pickA | exact updA) ?_; rintro ⟨sb, sc, la, lc⟩ -)
  cases dark
  · refine wk ?_
    (refine CX.shutL (disk_eq p ⟨S, l, left, steps, false⟩) (_, _, _, _) trivial (by exact selA) ?_)
    refine CX.callA (there_c p _ n) ?_
    rintro _ _ ⟨rfl, rfl⟩
    refine wk ?_
    ((apply CQ.end1; (· rfl); (· exact .tmp rfl)); (· exact ⟨rfl, rfl⟩); (· exact selA))
  · refine wk ?_
    (refine CQ.shutL (disk_eq p ⟨S, l, left, steps, true⟩) (_, _, _, _) trivial (by exact selA) ?_)
    ((apply CQ.end1; (· rfl); (· exact .tmp rfl)); (· exact ⟨rfl, rfl⟩); (· exact selA))

theorem step_c (p : Nat) (D : DS) {N : Nat} (h : D.wf N) (hN : N < 1000000) : Ctr Tryz.prog 153 [.pointer (some ⟨p, 0, none⟩)] [disk p D] (fun _ => True) (fun v M => v = .int .i64 D.step.1 ∧ M = [disk p D.step.2]) := by
  have hl0 := h.left0
  have hl1 := h.left1
  have hs := h.steps
  obtain ⟨S, l, left, steps, dark⟩ := D
  simp only at hl0 hl1 hs
  refine Ctr.intro Tryz.func153 rfl Tryz.ntmps153 rfl fun x w hp => ?_
  (refine CC.openL (disk_eq p _) (by first | exact pickA | exact updA) ?_; rintro ⟨sb, sc, la, lc⟩ -)
  by_cases h1 : left = 1
  · subst h1
    refine wk ?_
    (refine CQ.shutL (disk_eq p ⟨S, l, 1, steps, true⟩) (_, _, _, _) trivial (by exact selA) ?_)
    ((apply CQ.end1; (· rfl); (· exact .tmp rfl)); (· exact ⟨rfl, rfl⟩); (· exact selA))
  · refine wk ?_
    (refine CQ.shutL (disk_eq p ⟨S, l, max (left - 1) 0, steps + 1, dark⟩) (_, _, _, _) trivial (by exact selA) ?_)
    (apply CQ.end1; (· rfl); (· exact .tmp rfl))
    · exact ⟨by simp [DS.step, h1], rfl⟩
    · simp only [DS.step, h1, if_false]; exact selA

theorem blocks_c (p : Nat) (D : DS) : Ctr Tryz.prog 72 [.pointer (some ⟨p, 0, none⟩)] [disk p D] (fun _ => True) (fun v M => v = .int .i64 D.sure.length ∧ M = [disk p D]) := by
  refine Ctr.intro Tryz.func72 rfl Tryz.ntmps72 rfl fun x w hp => ?_
  refine wk ?_
  refine CX.callA (none_c p _) ?_
  rintro _ _ ⟨rfl, rfl⟩
  (refine CX.openL (disk_eq p _) (by first | exact pickA | exact updA) ?_; rintro ⟨sb, sc, la, lc⟩ -)
  refine wk ?_
  (refine CQ.shutL (disk_eq p D) (_, _, _, _) trivial (by exact selA) ?_)
  ((apply CQ.end1; (· rfl); (· exact .tmp rfl)); (· exact ⟨rfl, rfl⟩); (· exact selA))
theorem dark_c (p : Nat) (D : DS) : Ctr Tryz.prog 23 [.pointer (some ⟨p, 0, none⟩)] [disk p D] (fun _ => True) (fun v M => v = .bool D.dark ∧ M = [disk p D]) := by
  refine Ctr.intro Tryz.func23 rfl Tryz.ntmps23 rfl fun x w hp => ?_
  refine wk ?_
  refine CX.callA (none_c p _) ?_
  rintro _ _ ⟨rfl, rfl⟩
  (refine CX.openL (disk_eq p _) (by first | exact pickA | exact updA) ?_; rintro ⟨sb, sc, la, lc⟩ -)
  refine wk ?_
  (refine CQ.shutL (disk_eq p D) (_, _, _, _) trivial (by exact selA) ?_)
  ((apply CQ.end1; (· rfl); (· exact .tmp rfl)); (· exact ⟨rfl, rfl⟩); (· exact selA))
theorem sure_c (p : Nat) (D : DS) (n : Int) {N : Nat} (h : D.wf N) : Ctr Tryz.prog 32 [.pointer (some ⟨p, 0, none⟩), .int .i64 n] [disk p D] (fun _ => True) (fun v M => v = .tuple #[.agg (cb (D.sureAt n).1).toArray, .int .i64 (D.sureAt n).2] ∧ M = [disk p D]) := by
  refine Ctr.intro Tryz.func32 rfl Tryz.ntmps32 rfl fun x w hp => ?_
  refine wk ?_
  (refine CX.allocZ (cb zblk) ?_; intro r)
  refine wk ?_
  refine CX.callA (there_c p D n) ?_
  rintro _ _ ⟨rfl, rfl⟩
  by_cases h0 : D.there n = 0
  · obtain ⟨k, rfl, hk⟩ := there_ok h0
    have hb : WB D.sure[k] := h.wb _ (by simp)
    (refine CX.openL (disk_eq p _) (by first | exact pickA | exact updA) ?_; rintro ⟨sb, sc, la, lc⟩ -)
    refine wk ?_
    (refine CX.indexA (k) ?_ ?_; (· exact hk))
    (apply CX.ps; (· apply PS.loadG (vs := cb D.sure[k]); (· rfl); (· rfl); (· exact CellsAt.own (by first | exact pickA | exact updA) (sure_at h hk)); (· exact hb.len)))
    (apply CX.storeAll; (· rfl); (· rfl); (· rfl); (· first | exact pickA | exact updA); (· exact hb.len); (· exact WB_z.len); (· exact one_cb _))
    refine wk ?_
    (refine CQ.shutL (disk_eq p D) (_, _, _, _) trivial (by exact selA) ?_)
    ((apply CQ.end2; (· rfl); (· exact .cells inferInstance rfl (CellsAt.all (by first | exact pickA | exact updA)) (hb.len)); (· exact .tmp rfl)); (· exact ⟨by simp [DS.sureAt, h0, hk], rfl⟩); (· exact selA))
  · refine wk ?_
    (apply CX.ps; (· apply PS.buildZ (vs := cb zblk); (· rfl); (· simp [cb_z, Value.cells])))
    refine wk ?_
    (apply CX.storeAll; (· rfl); (· rfl); (· rfl); (· first | exact pickA | exact updA); (· exact WB_z.len); (· exact WB_z.len); (· exact one_cb _))
    refine wk ?_
    ((apply CQ.end2; (· rfl); (· exact .cells inferInstance rfl (CellsAt.all (by first | exact pickA | exact updA)) (WB_z.len)); (· exact .tmp rfl)); (· exact ⟨by simp [DS.sureAt, h0], rfl⟩); (· exact selA))
theorem arm_c (p : Nat) (D : DS) (n : Int) : Ctr Tryz.prog 12 [.pointer (some ⟨p, 0, none⟩), .int .i64 n] [disk p D] (fun _ => True) (fun v M => v = .int .i64 (D.arm n).1 ∧ M = [disk p (D.arm n).2]) := by
  obtain ⟨S, l, left, steps, dark⟩ := D
  refine Ctr.intro Tryz.func12 rfl Tryz.ntmps12 rfl fun x w hp => ?_
  refine wk ?_
  refine CX.callA (lit_c p _ 0) ?_
  rintro _ _ ⟨rfl, rfl⟩
  by_cases h0 : DS.lit ⟨S, l, left, steps, dark⟩ 0 = 0
  · by_cases h1 : n < 0
    · refine wk ?_
      (apply CQ.end1; (· rfl); (· exact .tmp rfl))
      · exact ⟨by simp [DS.arm, h1, h0], rfl⟩
      · simp only [DS.arm, h1, h0, ne_eq, not_true, if_false, if_true]; exact selA
    · refine wk ?_
      (refine CX.openL (disk_eq p _) (by first | exact pickA | exact updA) ?_; rintro ⟨sb, sc, la, lc⟩ -)
      refine wk ?_
      (refine CQ.shutL (disk_eq p ⟨S, l, n, steps, dark⟩) (_, _, _, _) trivial (by exact selA) ?_)
      (apply CQ.end1; (· rfl); (· exact .tmp rfl))
      · exact ⟨by simp [DS.arm, h1, h0], rfl⟩
      · simp only [DS.arm, h1, h0, ne_eq, not_true, if_false, if_true]; exact selA
  · refine wk ?_
    (apply CQ.end1; (· rfl); (· exact .tmp rfl))
    · exact ⟨by simp [DS.arm, h0], rfl⟩
    · simp only [DS.arm, h0, ne_eq, not_false_eq_true, if_false, if_true]; exact selA
/-- A disk's parts. -/
abbrev DL (p : Nat) (D : DS) (sb sc : Nat) (la : Option Addr) (lc : Nat) : List Assn :=
    [bk p 76 [.slice (some ⟨sb, 0, none⟩) D.sure.length sc, .slice la D.loose.length lc, .int .i64 D.left, .int .i64 (D.steps : Int), .bool D.dark],
     own 59 128 (some ⟨sb, 0, none⟩) D.sure.length sc (flat D.sure), own 142 129 la D.loose.length lc (flatL D.loose)]
theorem read_c (p : Nat) (D : DS) (n : Int) {N : Nat} (h : D.wf N) (hN : N < 1000000) : Ctr Tryz.prog 136 [.pointer (some ⟨p, 0, none⟩), .int .i64 n] [disk p D] (fun _ => True) (fun v M => v = .tuple #[.agg (cb (D.read n).1).toArray, .int .i64 (D.read n).2] ∧ M = [disk p D]) := by
  have hlo := h.loose
  have hlb : ∀ p ∈ D.loose, WB p.2 := fun p hp => (h.lb p hp).2
  refine Ctr.intro Tryz.func136 rfl Tryz.ntmps136 rfl fun x w hp => ?_
  refine wk ?_
  (refine CX.allocZ (cb zblk) ?_; intro r)
  refine wk ?_
  refine CX.callA (lit_c p D n) ?_
  rintro _ _ ⟨rfl, rfl⟩
  by_cases h0 : D.lit n = 0
  · have h1 : D.there n = 0 := by unfold DS.lit at h0; split at h0; cases h0; exact h0
    obtain ⟨k, rfl, hk⟩ := there_ok h1
    have hb : WB D.sure[k] := h.wb _ (by simp)
    have hr : D.read k = (match lastOf D.loose k with | some p => p.2 | none => D.sure[k], 0) := by simp [DS.read, h0, DS.get, lastOf, hk]; rfl
    (refine CX.openL (disk_eq p _) (by first | exact pickA | exact updA) ?_; rintro ⟨sb, sc, la, lc⟩ -)
    refine wk ?_
    refine CC.loop (X := Nat) (fun m => [(7, .int .i64 ((m : Int) - 1)), (0, .pointer (some ⟨p, 0, none⟩)), (1, .int .i64 (k : Int)), (4, .pointer (some ⟨r, 0, none⟩))]) (fun _ => DL p D sb sc la lc ++ [bk r 59 (cb zblk), exact x])
      (fun m => m ≤ D.loose.length ∧ lastOf D.loose k = lastOf (D.loose.take m) k) (fun m => m) D.loose.length ⟨Nat.le_refl _, by simp⟩ ⟨rfl, rfl, rfl, rfl, trivial⟩ (by exact selA) ?_
    rintro (_ | j) ⟨hj, hg⟩
    · refine wk ?_
      (refine CX.indexA (k) ?_ ?_; (· exact hk))
      (apply CX.ps; (· apply PS.loadG (vs := cb D.sure[k]); (· rfl); (· rfl); (· exact CellsAt.own (by first | exact pickA | exact updA) (sure_at h hk)); (· exact hb.len)))
      (apply CX.storeAll; (· rfl); (· rfl); (· rfl); (· first | exact pickA | exact updA); (· exact hb.len); (· exact WB_z.len); (· exact one_cb _))
      refine wk ?_
      (refine CQ.shutL (disk_eq p D) (_, _, _, _) trivial (by exact selA) ?_)
      ((apply CQ.end2; (· rfl); (· exact .cells inferInstance rfl (CellsAt.all (by first | exact pickA | exact updA)) (hb.len)); (· exact .tmp rfl)); (· exact ⟨by rw [hr, hg]; simp [lastOf], rfl⟩); (· exact selA))
    · have hjl : j < D.loose.length := by omega
      rw [lastOf_succ _ _ _ hjl] at hg
      have hb' : WB D.loose[j].2 := hlb _ (by simp)
      refine wk ?_
      (refine CX.indexOA (j) ?_ ?_; (· exact hjl); rintro g rfl)
      refine wk ?_
      (apply CX.ps; (· apply PS.load (v := .int .i64 (D.loose[j].1 : Int)); (· rfl); (· rfl); (· exact CellAt.own (by first | exact pickA | exact updA) (flatL_n _ hlb j hjl))))
      by_cases he : D.loose[j].1 = k
      · have he' : (D.loose[j].1 : Int) = k := by omega
        refine wk ?_
        (refine CX.indexA (j) ?_ ?_; (· exact hjl))
        refine wk ?_
        (apply CX.ps; (· apply PS.loadG (vs := cb D.loose[j].2); (· rfl); (· rfl); (· exact CellsAt.own (by first | exact pickA | exact updA) (by rw [hb'.len, Nat.zero_add]; exact flatL_b _ hlb j hjl)); (· exact hb'.len)))
        (apply CX.storeAll; (· rfl); (· rfl); (· rfl); (· first | exact pickA | exact updA); (· exact hb'.len); (· exact WB_z.len); (· exact one_cb _))
        refine wk ?_
        (refine CQ.shutL (disk_eq p D) (_, _, _, _) trivial (by exact selA) ?_)
        ((apply CQ.end2; (· rfl); (· exact .cells inferInstance rfl (CellsAt.all (by first | exact pickA | exact updA)) (hb'.len)); (· exact .tmp rfl)); (· exact ⟨by rw [hr, hg]; simp [he], rfl⟩); (· exact selA))
      · have he' : ¬ (D.loose[j].1 : Int) = k := by omega
        refine wk ?_
        refine CQ.round j ⟨by omega, by rw [hg, if_neg he]⟩ (Nat.lt_succ_self _) ⟨eqI (by omega), rfl, rfl, rfl, trivial⟩ (by exact selA)
  · refine wk ?_
    (apply CX.ps; (· apply PS.buildZ (vs := cb zblk); (· rfl); (· simp [cb_z, Value.cells])))
    refine wk ?_
    (apply CX.storeAll; (· rfl); (· rfl); (· rfl); (· first | exact pickA | exact updA); (· exact WB_z.len); (· exact WB_z.len); (· exact one_cb _))
    refine wk ?_
    ((apply CQ.end2; (· rfl); (· exact .cells inferInstance rfl (CellsAt.all (by first | exact pickA | exact updA)) (WB_z.len)); (· exact .tmp rfl)); (· exact ⟨by simp [DS.read, h0], rfl⟩); (· exact selA))
theorem write_c (p : Nat) (D : DS) (n : Int) (b : Blk) (hb : WB b) {N : Nat} (h : D.wf N) (hN : N < 1000000) : Ctr Tryz.prog 115 [.pointer (some ⟨p, 0, none⟩), .int .i64 n, .agg (cb b).toArray] [disk p D] (fun _ => True) (fun v M => v = .int .i64 (D.write n b).1 ∧ M = [disk p (D.write n b).2]) := by
  have hlo := h.loose
  refine Ctr.intro Tryz.func115 rfl Tryz.ntmps115 rfl fun x w hp => ?_
  refine wk ?_
  (refine CX.boxA ?_; intro c)
  refine wk ?_
  refine CX.callA (lit_c p D n) ?_
  rintro _ _ ⟨rfl, rfl⟩
  by_cases h0 : D.lit n = 0
  · have h1 : D.there n = 0 := by unfold DS.lit at h0; split at h0; cases h0; exact h0
    obtain ⟨k, rfl, hk⟩ := there_ok h1
    refine wk ?_
    refine CX.callA (step_c p D h hN) ?_
    rintro _ _ ⟨rfl, rfl⟩
    by_cases h2 : D.step.1 = 0
    · have e : D.write k b = (0, { D.step.2 with loose := D.step.2.loose ++ [(k, b)] }) := by simp [DS.write, h0, h2]
      have hlo' : D.step.2.loose.length ≤ N := by unfold DS.step; split <;> exact hlo
      refine wk ?_
      rw [e, h2]
      generalize D.step.2 = D' at hlo' ⊢
      (refine CC.openL (disk_eq p _) (by first | exact pickA | exact updA) ?_; rintro ⟨sb, sc, la, lc⟩ -)
      refine CC.draw [(0, 0), (1, 0), (2, 0), (3, 0), (4, 1), (5, 0), (6, 1), (7, 0), (8, 2), (9, 2), (10, 0), (11, 0), (12, 3)] mixed rfl (by kernel_rfl) (by kernel_rfl) [bk p 76 [.slice (some ⟨sb, 0, none⟩) D'.sure.length sc, .slice la D'.loose.length lc, .int .i64 D'.left, .int .i64 (D'.steps : Int), .bool D'.dark], bk c 59 (cb b)] ?_
      refine hwk ?_
      (apply CH.read; (· rfl); (· apply PS.loadG (vs := cb b); (· rfl); (· rfl); (· exact CellsAt.all (by first | exact pickA | exact updA)); (· exact hb.len)); (· exact selA))
      (apply CH.pure; (· rfl); (· apply PS.build (vs := [(0, .int .i64 (k : Int)), (1, .agg (cb b).toArray)]); (· rfl); (· rfl); (· exact fill_put k b hb)))
      refine CH.chain rfl fun K hK => ?_
      apply CX.buildSl (vs := [(0, .agg (pc (k, b)).toArray)])
      · rfl
      · rfl
      · decide
      · exact fill_one (length_pc hb) (by simp)
      intro q
      (refine CX.nil ?_; refine CQ.thenK ?_; apply hK; (· exact selA); clear hK K)
      refine CH.chain rfl fun K hK => ?_
      apply CX.append (m := 1) (news := pc (k, b))
      · rfl
      · rfl
      · rfl
      · first | exact pickA | exact updA
      · exact RdS.pick (by first | exact pickA | exact updA) (length_pc hb) (one_pc _) (by rw [List.drop_zero, List.take_of_length_le (by rw [length_pc hb]; omega)])
      · omega
      · intro hh; cases hh
      intro la' lc'
      (refine CX.nil ?_; refine CQ.thenK ?_; apply hK; (· exact selA); clear hK K)
      refine hwk ?_
      refine CH.tail rfl rfl fun K hK => ?_
      refine CX.storeA ?_
      (refine CX.nil ?_; refine CQ.thenK ?_; apply hK; clear hK K)
      refine hwk ?_
      refine wk ?_
      have e5 : D'.loose.length + 1 = (D'.loose ++ [(k, b)]).length := by simp
      have e6 : flatL D'.loose ++ pc (k, b) = flatL (D'.loose ++ [(k, b)]) := by simp [flatL, rows]
      rw [e5, e6]
      (refine CQ.shutL (disk_eq p ({ D' with loose := D'.loose ++ [(k, b)] })) (sb, sc, la', lc') trivial (by exact selA) ?_)
      ((apply CQ.end1; (· rfl); (· exact .tmp rfl)); (· exact ⟨rfl, rfl⟩); (· exact selA))
    · have e : D.write k b = D.step := by simp [DS.write, h0, h2]
      refine wk ?_
      rw [e]
      ((apply CQ.end1; (· rfl); (· exact .tmp rfl)); (· exact ⟨rfl, rfl⟩); (· exact selA))
  · have e : D.write n b = (D.lit n, D) := by simp [DS.write, h0]
    refine wk ?_
    rw [e]
    ((apply CQ.end1; (· rfl); (· exact .tmp rfl)); (· exact ⟨rfl, rfl⟩); (· exact selA))
theorem settle_c (p : Nat) (D : DS) (picks : List Int) (a : Option Addr) (c : Nat) (others : Int) (ho : 0 ≤ others ∧ others ≤ 128) {N : Nat} (h : D.wf N) (hN : N < 1000000) : Ctr Tryz.prog 50 [.pointer (some ⟨p, 0, none⟩), .slice a picks.length c, .int .i64 others] [disk p D] (rdx a picks.length (picks.map (Value.int .i64))) (fun v M => v = .tuple #[] ∧ M = [disk p (D.settle picks others.toNat)]) := by
  have hlo := h.loose
  have hlb : ∀ p ∈ D.loose, WB p.2 := fun p hp => (h.lb p hp).2
  refine Ctr.intro Tryz.func50 rfl Tryz.ntmps50 rfl fun x w hp => ?_
  (refine CC.openL (disk_eq p _) (by first | exact pickA | exact updA) ?_; rintro ⟨sb, sc, la, lc⟩ -)
  refine wk ?_
  refine CC.loop (X := Nat) (fun i => [(14, .int .i64 (i : Int)), (13, .int .i64 (D.loose.length : Int)), (12, .slice la D.loose.length lc), (0, .pointer (some ⟨p, 0, none⟩)), (1, .slice a picks.length c), (2, .int .i64 others)])
    (fun i => [bk p 76 [.slice (some ⟨sb, 0, none⟩) D.sure.length sc, .slice la D.loose.length lc, .int .i64 D.left, .int .i64 (D.steps : Int), .bool D.dark],
      own 59 128 (some ⟨sb, 0, none⟩) D.sure.length sc (flat (settleL D.sure picks others.toNat 0 (D.loose.take i))), own 142 129 la D.loose.length lc (flatL D.loose), exact x])
    (fun i => i ≤ D.loose.length) (fun i => D.loose.length - i) 0 (Nat.zero_le _) ⟨rfl, rfl, rfl, rfl, rfl, rfl, trivial⟩ (by exact selA) ?_
  intro i hi
  by_cases hlt : i < D.loose.length
  · have hw := hlb D.loose[i] (by simp)
    have hin := (h.lb D.loose[i] (by simp)).1
    have hSl : ∀ l, (settleL D.sure picks others.toNat 0 l).length = D.sure.length := fun l => length_settleL _ _ _ _ _
    have hSw := settleL_WB picks others.toNat (D.loose.take i) D.sure 0 h.wb (fun q hq => h.lb q (List.mem_of_mem_take hq))
    have hsnoc : settleL D.sure picks others.toNat 0 (D.loose.take (i + 1)) = (settleL D.sure picks others.toNat 0 (D.loose.take i)).set D.loose[i].1 (torn ((settleL D.sure picks others.toNat 0 (D.loose.take i)).getD D.loose[i].1 []) D.loose[i].2 (pickAt picks others.toNat i)) := by
      rw [List.take_succ_eq_append_getElem hlt, settleL_snoc, List.length_take, Nat.zero_add, Nat.min_eq_left hi]
    refine wk ?_
    (refine CX.indexOA (i) ?_ ?_; (· exact hlt); rintro g rfl)
    (apply CX.ps; (· apply PS.loadG (vs := pc D.loose[i]); (· rfl); (· rfl); (· exact CellsAt.own (by first | exact pickA | exact updA) (by rw [length_pc hw]; exact flatL_p _ hlb i hlt)); (· exact length_pc hw)))
    (apply CX.allocAs (pc (0, zblk)) (by simp [pc, cb_z, Value.cells]); (· rfl); intro r)
    refine wk ?_
    (apply CX.storeAll; (· rfl); (· rfl); (· rfl); (· first | exact pickA | exact updA); (· exact length_pc hw); (· exact length_pc WB_z); (· exact one_pc _))
    refine wk ?_
    refine CC.join (X := Unit) (fun _ => [(8, .int .i64 (pickAt picks others.toNat i : Int)), (7, .pointer (some ⟨r, 0, none⟩)), (14, .int .i64 (i : Int)), (13, .int .i64 (D.loose.length : Int)), (12, .slice (some ⟨g, 0, none⟩) D.loose.length lc), (0, .pointer (some ⟨p, 0, none⟩)), (1, .slice a picks.length c), (2, .int .i64 others)])
      (fun _ => [bk r 142 (pc D.loose[i]), bk p 76 [.slice (some ⟨sb, 0, none⟩) D.sure.length sc, .slice (some ⟨g, 0, none⟩) D.loose.length lc, .int .i64 D.left, .int .i64 (D.steps : Int), .bool D.dark],
      own 59 128 (some ⟨sb, 0, none⟩) D.sure.length sc (flat (settleL D.sure picks others.toNat 0 (D.loose.take i))), own 142 129 (some ⟨g, 0, none⟩) D.loose.length lc (flatL D.loose), exact x]) (fun _ => True) ?_ ?_
    · by_cases hpk : i < picks.length
      · rcases hp with h0 | ⟨pg, off, cs, pt, fr, rfl, hx, hcs⟩
        · omega
        have hz : picks[i]? = some picks[i] := by simp [hpk]
        refine wk ?_
        (refine CX.indexA (i) ?_ ?_; (· exact hpk))
        (apply CX.ps; (· apply PS.load (v := .int .i64 picks[i]); (· rfl); (· rfl); (· exact CellAt.exact (by first | exact pickA | exact updA) ⟨cs, pt, fr, hx, by rw [Nat.mul_one]; exact hcs i _ (by simp [hpk])⟩)))
        refine wk ?_
        refine CQ.joined () trivial ⟨eqI (by simp only [pickAt, hz]; omega), rfl, rfl, rfl, rfl, rfl, rfl, rfl, trivial⟩ (by exact selA)
      · have hz : picks[i]? = none := by simp; omega
        refine wk ?_
        refine CQ.joined () trivial ⟨eqI (by simp only [pickAt, hz]; omega), rfl, rfl, rfl, rfl, rfl, rfl, rfl, trivial⟩ (by exact selA)
    · rintro _ -
      generalize hm : pickAt picks others.toNat i = m
      have hm' : m ≤ 128 := by subst hm; simp only [pickAt]; split <;> omega
      generalize hSS : settleL D.sure picks others.toNat 0 (D.loose.take i) = SS at *
      have hSl' : SS.length = D.sure.length := by rw [← hSS]; exact hSl _
      refine CC.draw [(0, 0), (1, 0), (2, 0), (3, 1), (4, 0), (5, 1), (6, 0), (7, 0), (8, 0), (9, 0), (10, 0), (11, 0), (12, 2)] mixed rfl (by kernel_rfl) (by kernel_rfl) [bk r 142 (pc D.loose[i]), bk p 76 [.slice (some ⟨sb, 0, none⟩) D.sure.length sc, .slice (some ⟨g, 0, none⟩) D.loose.length lc, .int .i64 D.left, .int .i64 (D.steps : Int), .bool D.dark]] ?_
      refine hwk ?_
      (apply CH.pure; (· rfl); (· apply PS.indexAddr (j := D.loose[i].1); (· rfl); (· rfl); (· rfl); (· rfl); (· exact hin)))
      refine hwk ?_
      (apply CH.pure; (· rfl); (· apply PS.sliceArrHi (h := m); (· rfl); (· rfl); (· rfl); (· rfl); (· exact hm')))
      refine hwk ?_
      (apply CH.pure; (· rfl); (· apply PS.sliceArrHi (h := m); (· rfl); (· rfl); (· rfl); (· rfl); (· exact hm')))
      refine CH.chain rfl fun K hK => ?_
      apply CX.copyOwn (m := m) (news := cb (D.loose[i].2.take m))
      · rfl
      · rfl
      · rfl
      · exact RdS.pick (by first | exact pickA | exact updA) (by rw [length_cb, List.length_take, hw]; omega) (one_cb _) (by simp only [pc, List.drop_succ_cons, List.drop_zero, cb_take])
      · first | exact pickA | exact updA
      · simp
      · omega
      (refine CX.nil ?_; refine CQ.thenK ?_; apply hK; (· exact selA); clear hK K)
      refine hwk ?_
      have e1 : setL (flat SS) (0 + D.loose[i].1 * 128) (List.take m (cb (List.take m D.loose[i].2))) = flat (settleL D.sure picks others.toNat 0 (D.loose.take (i + 1))) := by
        rw [Nat.zero_add, List.take_of_length_le (by simp; omega), flat_set hSw (by omega) _ m hm' hw, hsnoc, hm]
      rw [e1]
      clear e1 hsnoc hSS hSw hm
      refine wk ?_
      exact CQ.round (i + 1) hlt (by omega) ⟨eqI (by omega), rfl, rfl, rfl, rfl, rfl, trivial⟩ (by exact selA)
  · obtain rfl : i = D.loose.length := by omega
    refine wk ?_
    refine CQ.ownNil 142 129 ?_
    have e : D.sure.length = (D.settle picks others.toNat).sure.length := by simp [DS.settle, length_settleL]
    rw [e, List.take_length]
    (refine CQ.shutL (disk_eq p (D.settle picks others.toNat)) (_, _, _, _) trivial (by exact selA) ?_)
    apply CQ.end0
    · rfl
    · exact ⟨rfl, rfl⟩
    · exact selA
theorem flush_c (p : Nat) (D : DS) {N : Nat} (h : D.wf N) (hN : N < 999999) : Ctr Tryz.prog 116 [.pointer (some ⟨p, 0, none⟩)] [disk p D] (fun _ => True) (fun v M => v = .int .i64 D.flush.1 ∧ M = [disk p D.flush.2]) := by
  refine Ctr.intro Tryz.func116 rfl Tryz.ntmps116 rfl fun x w hp => ?_
  refine wk ?_
  refine CX.callA (lit_c p D 0) ?_
  rintro _ _ ⟨rfl, rfl⟩
  by_cases h0 : D.lit 0 = 0
  · refine wk ?_
    refine CX.callA (step_c p D h (by omega)) ?_
    rintro _ _ ⟨rfl, rfl⟩
    by_cases h2 : D.step.1 = 0
    · have e : D.flush = (0, D.step.2.settle [] 128) := by simp [DS.flush, h0, h2]
      refine wk ?_
      (apply CX.call (S := settle_c p D.step.2 [] none 0 128 (by omega) (N := N + 1) (step_wf h) (by omega)) (hpre := fun _ _ => .inl rfl); (· rfl); (· rfl); (· exact selA))
      rintro _ _ ⟨rfl, rfl⟩
      refine wk ?_
      rw [e]
      ((apply CQ.end1; (· rfl); (· exact .tmp rfl)); (· exact ⟨by rw [h2], rfl⟩); (· exact selA))
    · have e : D.flush = D.step := by simp [DS.flush, h0, h2]
      refine wk ?_
      rw [e]
      ((apply CQ.end1; (· rfl); (· exact .tmp rfl)); (· exact ⟨rfl, rfl⟩); (· exact selA))
  · have e : D.flush = (D.lit 0, D) := by simp [DS.flush, h0]
    refine wk ?_
    rw [e]
    ((apply CQ.end1; (· rfl); (· exact .tmp rfl)); (· exact ⟨rfl, rfl⟩); (· exact selA))
theorem new_c (n : Int) : Ctr Tryz.prog 8 [.int .i64 n] [] (fun _ => True) (fun v M => (64 ≤ n ∧ n ≤ 4096 ∧ ∃ p, v = .tuple #[.pointer (some ⟨p, 0, none⟩), .int .i64 0] ∧ M = [disk p (DS.new n.toNat)]) ∨ (¬(64 ≤ n ∧ n ≤ 4096) ∧ v = .tuple #[.pointer none, .int .i64 2] ∧ M = [])) := by
  refine Ctr.intro Tryz.func8 rfl Tryz.ntmps8 rfl fun x w hp => ?_
  by_cases h1 : n < 64
  · refine wk ?_
    (apply CQ.end2; (· rfl); (· exact .tmp rfl); (· exact .tmp rfl))
    · exact .inr ⟨by omega, rfl, rfl⟩
    · exact selA
  by_cases h2 : 4096 < n
  · refine wk ?_
    (apply CQ.end2; (· rfl); (· exact .tmp rfl); (· exact .tmp rfl))
    · exact .inr ⟨by omega, rfl, rfl⟩
    · exact selA
  obtain ⟨k, rfl⟩ : ∃ k : Nat, n = k := ⟨n.toNat, by omega⟩
  refine wk ?_
  (apply CX.makeSl (l := k); (· rfl); (· rfl); (· rfl); (· rfl); (· omega); intro sb)
  (apply CX.ps; (· apply PS.build (vs := [(0, .slice (some ⟨sb, 0, none⟩) k k)]); (· rfl); (· rfl); (· rfl)))
  (refine CX.boxA ?_; intro p)
  refine wk ?_
  refine CQ.ownNil 142 129 ?_
  have e : (madeCells (List.replicate 128 (Value.int .u8 0)).toArray (k * 128)).toList = flat (List.replicate k zblk) := by rw [made_rep _ _ _ (by omega), flat_zs]
  have e2 : k = (DS.new k).sure.length := by simp [DS.new]
  have e3 : (fun l => flat (List.replicate l zblk)) k = flat (DS.new k).sure := rfl
  apply CQ.mem (L' := DL p (DS.new k) sb k none 0 ++ [exact x])
  · intro h hs
    have hs' : Sep ([own 142 129 none 0 0 [], bk p 76 [.slice (some ⟨sb, 0, none⟩) k k, .slice none 0 0, .int .i64 0, .int .i64 0, .bool false], own 59 128 (some ⟨sb, 0, none⟩) k k (madeCells (List.replicate 128 (Value.int .u8 0)).toArray (k * 128)).toList, exact x]) h := hs
    rw [e] at hs'
    have : Sel [own 142 129 none 0 0 [], bk p 76 [.slice (some ⟨sb, 0, none⟩) k k, .slice none 0 0, .int .i64 0, .int .i64 0, .bool false], own 59 128 (some ⟨sb, 0, none⟩) k k (flat (List.replicate k zblk)), exact x] (DL p (DS.new k) sb k none 0 ++ [exact x]) [] := by
      simp only [DL, DS.new, List.length_replicate]
      exact selA
    exact (this.sep hs').left
  (refine CQ.shutL (disk_eq p (DS.new k)) (_, _, _, _) trivial (by exact selA) ?_)
  (apply CQ.end2; (· rfl); (· exact .tmp rfl); (· exact .tmp rfl))
  · exact .inl ⟨by omega, by omega, p, rfl, rfl⟩
  · exact selA
theorem crash_c (p : Nat) (D : DS) (picks : List Int) (a : Option Addr) (c : Nat) {N : Nat} (h : D.wf N) (hN : N < 1000000) : Ctr Tryz.prog 14 [.pointer (some ⟨p, 0, none⟩), .slice a picks.length c] [disk p D] (rdx a picks.length (picks.map (Value.int .i64))) (fun v M => v = .int .i64 0 ∧ M = [disk p (D.crash picks)]) := by
  refine Ctr.intro Tryz.func14 rfl Tryz.ntmps14 rfl fun x w hp => ?_
  refine wk ?_
  refine CX.callA (none_c p D) ?_
  rintro _ _ ⟨rfl, rfl⟩
  refine wk ?_
  refine CX.callA (settle_c p D picks a c 0 (by omega) h hN) ?_ (hpre := by exact fun y hy => rdx_mono hp (Pick.ok (show Pick (exact x) _ _ from by first | exact pickA | exact updA) hy))
  rintro _ _ ⟨rfl, rfl⟩
  refine wk ?_
  (refine CX.openL (disk_eq p _) (by first | exact pickA | exact updA) ?_; rintro ⟨sb, sc, la, lc⟩ -)
  refine wk ?_
  (refine CQ.shutL (disk_eq p (D.crash picks)) (_, _, _, _) trivial (by exact selA) ?_)
  ((apply CQ.end1; (· rfl); (· exact .tmp rfl)); (· exact ⟨rfl, rfl⟩); (· exact selA))
end Go.Proofs.YtlckhaodecdbbaaGreatDoor
/-! The disk's Rot and Copy. -/
namespace Go.Proofs.YtlckhaodecdbbaaGreatDoor
open Go.Cx
attribute [local irreducible] Go.Cx.CX Go.Cx.CC Go.Cx.CQ Go.Cx.PS Go.Cx.Ctr Go.Cx.CH
set_option maxRecDepth 10000

theorem cb_set (b : Blk) (q : Nat) (c : UInt8) (hq : q < b.length) : cb (b.set q c) = setL (cb b) q [.int .u8 (c.toNat : Int)] := by
  rw [setL_one _ _ _ (by rw [length_cb]; exact hq)]
  simp [cb, ib, List.map_set]
theorem flat_set1 {S : List Blk} (h : ∀ b ∈ S, WB b) {k : Nat} (hk : k < S.length) {q : Nat} (hq : q < 128) (c : UInt8) : setL (flat S) (k * 128 + q) [.int .u8 (c.toNat : Int)] = flat (S.set k ((S.getD k []).set q c)) := by
  have hg : S.getD k [] = S[k] := by simp [hk]
  have hw := h S[k] (by simp)
  rw [hg]
  exact rows_set cb 128 S (fun x hx => (h x hx).len) k hk q [.int .u8 (c.toNat : Int)] (S[k].set q c) (by simp; omega) (cb_set _ _ _ (by rw [hw]; exact hq))
end Go.Proofs.YtlckhaodecdbbaaGreatDoor
/-! What the statements of layer 4 do, step by step. -/
namespace Go.Proofs.YtlckhaodecdbbaaGreatDoor
open Go.Cx
attribute [local irreducible] Go.Cx.CX Go.Cx.CC Go.Cx.CQ Go.Cx.PS Go.Cx.Ctr Go.Cx.CH
set_option maxRecDepth 10000

def B1 : Blk := [17, 17, 17, 17] ++ List.replicate 124 0
def B2 : Blk := [17, 17, 17] ++ List.replicate 125 0
theorem B1_WB : WB B1 := by simp [WB, B1]
theorem B2_WB : WB B2 := by simp [WB, B2]
abbrev z64 : List Blk := List.replicate 64 zblk
def E1 : DS := ⟨z64, [], 2, 0, false⟩
def E2 : DS := ⟨z64, [(0, B1)], 1, 1, false⟩
def E3 : DS := ⟨z64, [(0, B1)], 1, 1, true⟩
def E4 : DS := ⟨B2 :: List.replicate 63 zblk, [], 0, 1, false⟩
theorem new_wf {k : Nat} (h1 : 64 ≤ k) (h2 : k ≤ 4096) : (DS.new k).wf 0 :=
  ⟨by simpa [DS.new] using h1, by simpa [DS.new] using h2, by simp [DS.new]; intro _; exact WB_z, by simp [DS.new], by simp [DS.new], by simp [DS.new], by simp [DS.new], by simp [DS.new]⟩
theorem e1 : (DS.new 64).arm 2 = (0, E1) := by kernel_rfl
theorem e2 : E1.write 0 B1 = (0, E2) := by kernel_rfl
theorem e3 : E2.flush = (9, E3) := by kernel_rfl
theorem e4 : E3.read 0 = (zblk, 9) := by kernel_rfl
theorem e5 : E3.crash [3] = E4 := by kernel_rfl
theorem e6 : E4.read 0 = (B2, 0) := by kernel_rfl
theorem e7 : E4.write 64 zblk = (2, E4) := by kernel_rfl
theorem wf1 : E1.wf 5 := ⟨by simp [E1], by simp [E1], by simp [E1]; exact WB_z, by simp [E1], by simp [E1], by simp [E1], by simp [E1], by simp [E1]⟩
theorem wf2 : E2.wf 5 := ⟨by simp [E2], by simp [E2], by simp [E2]; exact WB_z, by simp [E2]; exact B1_WB, by simp [E2], by simp [E2], by simp [E2], by simp [E2]⟩
theorem wf3 : E3.wf 5 := ⟨by simp [E3], by simp [E3], by simp [E3]; exact WB_z, by simp [E3]; exact B1_WB, by simp [E3], by simp [E3], by simp [E3], by simp [E3]⟩
theorem wf4 : E4.wf 5 := ⟨by simp [E4], by simp [E4], by simp [E4]; exact ⟨B2_WB, WB_z⟩, by simp [E4], by simp [E4], by simp [E4], by simp [E4], by simp [E4]⟩
/-- A put of the statements: its cells. -/
def pu (p : Nat × Blk) : List Value := .int .u8 (p.1 : Int) :: cb p.2
theorem length_pu {p : Nat × Blk} (h : WB p.2) : (pu p).length = 129 := by simp [pu, WB] at *; exact h
theorem puts_at {l : List (Nat × Blk)} (hl : ∀ p ∈ l, p.1 < 256 ∧ WB p.2) {a : Option Addr} {x : PH} (h : rdx a (l.length * 129) (rows pu l) x) (i : Nat) (hi : i < l.length) :
    ∃ g off cs t fr, a = some ⟨g, off, none⟩ ∧ x g = some (.cells cs t fr) ∧ cs[off + i * 129]? = some (.int .u8 (l[i].1 : Int)) ∧ ∀ j v, (cb l[i].2)[j]? = some v → cs[off + i * 129 + 1 + j]? = some v := by
  have hlen : ∀ p ∈ l, (pu p).length = 129 := fun p hp => length_pu (hl p hp).2
  rcases h with h0 | ⟨g, off, cs, t, fr, e1, e2, e3⟩
  · omega
  refine ⟨g, off, cs, t, fr, e1, e2, ?_, fun j v hj => ?_⟩
  · have := rows_at pu 129 l hlen i hi 0 (by omega)
    exact e3 _ _ (by rw [Nat.add_zero] at this; rw [this]; rfl)
  · have hjl : j < 128 := by
      have := (List.getElem?_eq_some_iff.1 hj).1
      rw [WB.len (hl l[i] (by simp)).2] at this; exact this
    have := rows_at pu 129 l hlen i hi (j + 1) (by omega)
    have h2 := e3 (i * 129 + (j + 1)) v (by rw [this]; exact hj)
    rw [show off + i * 129 + 1 + j = off + (i * 129 + (j + 1)) by omega]; exact h2
theorem arm_new (K : Nat) : (DS.new 64).arm (K : Int) = (0, { DS.new 64 with left := K }) := by
  have : (DS.new 64).lit 0 = 0 := by kernel_rfl
  simp only [DS.arm, this, ne_eq, not_true, if_false]
  rw [if_neg (by omega)]
/-- A disk that was armed, i steps later. -/
structure J (K i : Nat) (D : DS) : Prop where
  wf : D.wf i
  len : D.sure.length = 64
  lit : i < K ∨ K = 0 → D.dark = false ∧ D.steps = i ∧ D.left = ((K - i : Nat) : Int)
  drk : 0 < K → K ≤ i → D.dark = true ∧ D.steps = K - 1
theorem wf_mono {D : DS} {N M : Nat} (h : D.wf N) (l : N ≤ M) : D.wf M := ⟨h.lo, h.hi, h.wb, h.lb, h.left0, h.left1, Nat.le_trans h.steps l, Nat.le_trans h.loose l⟩
theorem J_new {K : Nat} (hK : K < 64) : J K 0 { DS.new 64 with left := (K : Int) } := by
  have h := new_wf (k := 64) (by omega) (by omega)
  refine ⟨⟨h.lo, h.hi, h.wb, h.lb, by simp, by simp; omega, h.steps, h.loose⟩, by simp [DS.new], fun _ => ⟨rfl, rfl, rfl⟩, fun h1 h2 => by omega⟩
/-- A step of it. -/
theorem J_step {K i : Nat} {D : DS} (h : J K i D) (n : Nat) (hn : n < 64) :
    (0 < K ∧ K ≤ i ∧ D.lit n = 9 ∧ J K (i + 1) D) ∨ (D.lit n = 0 ∧ 0 < K ∧ K = i + 1 ∧ D.step.1 = 9 ∧ J K (i + 1) D.step.2) ∨ (D.lit n = 0 ∧ (i + 1 < K ∨ K = 0) ∧ D.step.1 = 0 ∧ D.step.2.wf (i + 1) ∧ D.step.2.loose = D.loose ∧ D.step.2.sure = D.sure ∧ J K (i + 1) D.step.2) := by
  have hlen := h.len
  by_cases hd : 0 < K ∧ K ≤ i
  · obtain ⟨h1, h2⟩ := h.drk hd.1 hd.2
    exact .inl ⟨hd.1, hd.2, by simp [DS.lit, h1], wf_mono h.wf (by omega), hlen, fun hh => by omega, fun _ _ => ⟨h1, h2⟩⟩
  · obtain ⟨h1, h2, h3⟩ := h.lit (by omega)
    have hl : D.lit n = 0 := by simp [DS.lit, h1, DS.there, errOf, hlen]; omega
    have hw := step_wf h.wf
    by_cases h4 : K = i + 1
    · have e : D.step = (9, { D with dark := true }) := by simp [DS.step, h3, h4]
      rw [e] at hw ⊢
      exact .inr (.inl ⟨hl, by omega, h4, rfl, hw, hlen, fun hh => by omega, fun _ _ => ⟨rfl, by simp; omega⟩⟩)
    · have e : D.step = (0, { D with left := max (D.left - 1) 0, steps := D.steps + 1 }) := by
        have : ¬ D.left = 1 := by omega
        simp [DS.step, this]
      rw [e] at hw ⊢
      exact .inr (.inr ⟨hl, by omega, rfl, hw, rfl, rfl, hw, hlen, fun hh => ⟨h1, by simp [h2], by simp; omega⟩, fun _ _ => by omega⟩)
theorem J_flush {K i : Nat} {D : DS} (h : J K i D) : D.flush.1 = (if 0 < K ∧ K ≤ i + 1 then 9 else 0) ∧ J K (i + 1) D.flush.2 := by
  rcases J_step h 0 (by omega) with ⟨h1, h2, h3, h4⟩ | ⟨h1, h2, h3, h4, h5⟩ | ⟨h1, h2, h3, h4, h5, h6, h7⟩
  · have : D.flush = (9, D) := by simp only [Int.ofNat_zero] at h3; simp [DS.flush, h3]
    rw [this, if_pos (by omega)]; exact ⟨rfl, h4⟩
  · have : D.flush = D.step := by simp only [Int.ofNat_zero] at h1; simp [DS.flush, h1, h4]
    rw [this, if_pos (by omega)]; exact ⟨h4, h5⟩
  · have : D.flush = (0, D.step.2.settle [] 128) := by simp only [Int.ofNat_zero] at h1; simp [DS.flush, h1, h3]
    rw [this, if_neg (by omega)]
    exact ⟨rfl, settle_wf h4 _ _, by simp [DS.settle, length_settleL, h7.len], h7.lit, h7.drk⟩
theorem J_write {K i : Nat} {D : DS} (h : J K i D) (n : Nat) (hn : n < 64) (b : Blk) (hb : WB b) : (D.write n b).1 = (if 0 < K ∧ K ≤ i + 1 then 9 else 0) ∧ J K (i + 1) (D.write n b).2 := by
  rcases J_step h n hn with ⟨h1, h2, h3, h4⟩ | ⟨h1, h2, h3, h4, h5⟩ | ⟨h1, h2, h3, h4, h5, h6, h7⟩
  · have : D.write n b = (9, D) := by simp [DS.write, h3]
    rw [this, if_pos (by omega)]; exact ⟨rfl, h4⟩
  · have : D.write n b = D.step := by simp [DS.write, h1, h4]
    rw [this, if_pos (by omega)]; exact ⟨h4, h5⟩
  · have : D.write n b = (0, { D.step.2 with loose := D.step.2.loose ++ [(n, b)] }) := by simp [DS.write, h1, h3]
    rw [this, if_neg (by omega)]
    have hlo := h.wf.loose
    refine ⟨rfl, ⟨h4.lo, h4.hi, h4.wb, fun p hp => ?_, h4.left0, h4.left1, h4.steps, by simp [h5]; omega⟩, h7.len, h7.lit, h7.drk⟩
    simp only [List.mem_append, List.mem_singleton] at hp
    rcases hp with hp | rfl
    · exact h4.lb p hp
    · exact ⟨by rw [h7.len]; exact hn, hb⟩
end Go.Proofs.YtlckhaodecdbbaaGreatDoor
/-! What the statements of layer 4 do, step by step: writes, then more. -/
namespace Go.Proofs.YtlckhaodecdbbaaGreatDoor
open Go.Cx
attribute [local irreducible] Go.Cx.CX Go.Cx.CC Go.Cx.CQ Go.Cx.PS Go.Cx.Ctr Go.Cx.CH
set_option maxRecDepth 10000

/-- A disk that is not armed. -/
structure Lv (i : Nat) (D : DS) : Prop where
  wf : D.wf i
  len : D.sure.length = 64
  dark : D.dark = false
  left : D.left = 0
theorem Lv_new : Lv 0 (DS.new 64) := ⟨new_wf (by omega) (by omega), by simp [DS.new], rfl, rfl⟩
theorem Lv.lit {i : Nat} {D : DS} (h : Lv i D) (n : Nat) (hn : n < 64) : D.lit (n : Int) = 0 := by
  have := h.len
  simp [DS.lit, h.dark, DS.there, errOf, this]; omega
theorem Lv.there {i : Nat} {D : DS} (h : Lv i D) (n : Nat) (hn : n < 64) : D.there (n : Int) = 0 := by
  have := h.len
  simp [DS.there, errOf, this]; omega
theorem Lv.step {i : Nat} {D : DS} (h : Lv i D) : D.step = (0, { D with steps := D.steps + 1 }) := by
  obtain ⟨S, l, left, steps, dark⟩ := D
  have h1 := h.left
  simp only at h1; subst h1
  simp [DS.step]; omega
theorem Lv.write {i : Nat} {D : DS} (h : Lv i D) (n : Nat) (hn : n < 64) {b : Blk} (hb : WB b) : D.write n b = (0, { D with steps := D.steps + 1, loose := D.loose ++ [(n, b)] }) ∧ Lv (i + 1) { D with steps := D.steps + 1, loose := D.loose ++ [(n, b)] } := by
  refine ⟨by simp [DS.write, h.lit n hn, h.step], ⟨⟨h.wf.lo, h.wf.hi, h.wf.wb, fun p hp => ?_, h.wf.left0, h.wf.left1, by have := h.wf.steps; simp; omega, by have := h.wf.loose; simp; omega⟩, h.len, h.dark, h.left⟩⟩
  simp only [List.mem_append, List.mem_singleton] at hp
  rcases hp with hp | rfl
  · exact h.wf.lb p hp
  · exact ⟨by rw [h.len]; exact hn, hb⟩
theorem Lv.flush {i : Nat} {D : DS} (h : Lv i D) : ∃ D', D.flush = (0, D') ∧ Lv (i + 1) D' ∧ D'.loose = [] := by
  have h0 : D.lit 0 = 0 := h.lit 0 (by omega)
  refine ⟨({ D with steps := D.steps + 1 } : DS).settle [] 128, by simp [DS.flush, h0, h.step], ?_, rfl⟩
  have hw : ({ D with steps := D.steps + 1 } : DS).wf (i + 1) := ⟨h.wf.lo, h.wf.hi, h.wf.wb, h.wf.lb, h.wf.left0, h.wf.left1, by have := h.wf.steps; simp; omega, by have := h.wf.loose; simp; omega⟩
  exact ⟨settle_wf hw _ _, by simp [DS.settle, length_settleL, h.len], h.dark, h.left⟩
theorem Lv.crash {i : Nat} {D : DS} (h : Lv i D) (picks : List Int) : Lv i (D.crash picks) ∧ (D.crash picks).loose = [] := by
  have hw := settle_wf h.wf picks 0
  exact ⟨⟨⟨hw.lo, hw.hi, hw.wb, hw.lb, by simp [DS.crash], by simp [DS.crash], hw.steps, hw.loose⟩, by simp [DS.crash, DS.settle, length_settleL, h.len], rfl, rfl⟩, rfl⟩
theorem settleL_ne (picks : List Int) (o k : Nat) (l : List (Nat × Blk)) : ∀ (S : List Blk) (i : Nat), (∀ p ∈ l, p.1 ≠ k) → (settleL S picks o i l).getD k [] = S.getD k [] := by
  induction l with
  | nil => intro S i _; rfl
  | cons q l ih =>
    intro S i h
    simp only [settleL]
    rw [ih _ _ fun p hp => h p (by simp [hp])]
    simp [List.getElem?_set_ne (h q (by simp))]
theorem Lv.read {i : Nat} {D : DS} (h : Lv i D) (k : Nat) (hk : k < 64) (hl : D.loose = []) : D.read k = (D.sure.getD k [], 0) ∧ D.sureAt k = (D.sure.getD k [], 0) ∧ WB (D.sure.getD k []) := by
  refine ⟨?_, ?_, getD_WB h.wf.wb (by rw [h.len]; exact hk)⟩
  · simp [DS.read, h.lit k hk, DS.get, hl]
  · simp [DS.sureAt, h.there k hk]

end Go.Proofs.YtlckhaodecdbbaaGreatDoor
/-! What the statement DiskAll does, step by step. -/
namespace Go.Proofs.YtlckhaodecdbbaaGreatDoor
open Go.Cx
attribute [local irreducible] Go.Cx.CX Go.Cx.CC Go.Cx.CQ Go.Cx.PS Go.Cx.Ctr Go.Cx.CH
set_option maxRecDepth 10000

theorem settle_none (l : List (Nat × Blk)) : ∀ (S : List Blk) (i : Nat), settleL S [] 0 i l = S := by
  induction l with
  | nil => intro S i; rfl
  | cons q l ih =>
    intro S i
    have e : S.set q.1 (torn (S.getD q.1 []) q.2 (pickAt [] 0 i)) = S := by
      apply List.ext_getElem?
      intro j
      simp only [pickAt, torn, List.getElem?_nil, List.take_zero, List.drop_zero, List.nil_append, List.getElem?_set]
      split
      · rename_i hj; subst hj
        split
        · rename_i h; simp [h]
        · rename_i h; simp only [Nat.not_lt] at h; simp [h]
      · rfl
    simp only [settleL]; rw [e]; exact ih S _
theorem lastOf_snoc (l : List (Nat × Blk)) (p : Nat × Blk) (k : Nat) : lastOf (l ++ [p]) k = if p.1 = k then some p else lastOf l k := by
  have := lastOf_succ (l ++ [p]) k l.length (by simp)
  rw [List.take_of_length_le (by simp)] at this
  simpa using this
def valOf (S : List Blk) (l : List (Nat × Blk)) (k : Nat) : Blk := match lastOf l k with | some p => p.2 | none => S.getD k []
theorem settle_full (picks : List Int) (o : Nat) (S : List Blk) (hS : ∀ b ∈ S, WB b) (k : Nat) : ∀ (m : Nat) (l : List (Nat × Blk)), l.length = m → (∀ p ∈ l, p.1 < S.length ∧ WB p.2) → (∀ j, j < m → pickAt picks o j = 128) →
    (settleL S picks o 0 l).getD k [] = valOf S l k := by
  intro m
  induction m with
  | zero => intro l h _ _; obtain rfl := List.length_eq_zero_iff.1 h; rfl
  | succ m ih =>
    intro l h hl hp
    obtain ⟨l', p, rfl⟩ : ∃ l' p, l = l' ++ [p] := by
      have hne : l ≠ [] := by intro e; subst e; simp at h
      exact ⟨l.dropLast, l.getLast hne, (List.dropLast_concat_getLast hne).symm⟩
    have hm : l'.length = m := by simpa using h
    have hl' : ∀ q ∈ l', q.1 < S.length ∧ WB q.2 := fun q hq => hl q (by simp [hq])
    obtain ⟨hp1, hp2⟩ := hl p (by simp)
    have e := ih l' hm hl' fun j hj => hp j (by omega)
    have ht : ∀ old, WB old → torn old p.2 128 = p.2 := fun old ho => by
      unfold torn; rw [List.take_of_length_le (by rw [hp2]; omega), List.drop_of_length_le (by rw [ho]; omega)]; simp
    have hw := settleL_WB picks o l' S 0 hS hl'
    have hlen := length_settleL picks o l' S 0
    rw [settleL_snoc, Nat.zero_add, hm, hp m (by omega), ht _ (getD_WB hw (by omega))]
    unfold valOf at *
    rw [lastOf_snoc]
    by_cases hk : p.1 = k
    · subst hk; simp [show p.1 < (settleL S picks o 0 l').length by omega]
    · rw [if_neg hk, ← e]; simp [List.getElem?_set_ne hk]
def fills (i : Nat) : List Int := (List.range i).map fun (j : Nat) => (128 + j : Int)
theorem length_fills (i : Nat) : (fills i).length = i := by simp [fills]
theorem fills_succ (i : Nat) : fills (i + 1) = fills i ++ [(128 + i : Int)] := by simp [fills, List.range_succ]
theorem pickAt_fills {i j : Nat} (h : j < i) : pickAt (fills i) 0 j = 128 := by
  have : (fills i)[j]? = some (128 + (j : Int)) := by simp [fills, h]
  simp only [pickAt, this]; omega
def was16 (S : List Blk) (k : Nat) : List Blk := S.take k ++ List.replicate (16 - k) zblk
theorem was16_len {S : List Blk} (h : 16 ≤ S.length) {k : Nat} (hk : k ≤ 16) : (was16 S k).length = 16 := by simp [was16]; omega
theorem was16_WB {S : List Blk} (h : ∀ b ∈ S, WB b) (k : Nat) : ∀ b ∈ was16 S k, WB b := by
  intro b hb
  simp only [was16, List.mem_append, List.mem_replicate] at hb
  rcases hb with hb | ⟨_, rfl⟩
  · exact h b (List.mem_of_mem_take hb)
  · exact WB_z
theorem was16_set {S : List Blk} (hS : 16 ≤ S.length) (h : ∀ b ∈ S, WB b) {k : Nat} (hk : k < 16) : setL (flat (was16 S k)) (0 + k * 128) (cb (S.getD k [])) = flat (was16 S (k + 1)) := by
  have hg : S.getD k [] = S[k] := by simp [show k < S.length by omega]
  have hb : WB S[k] := h _ (by simp)
  have hl := was16_len hS (k := k) (by omega)
  have := rows_set cb 128 (was16 S k) (fun x hx => (was16_WB h k x hx).len) k (by omega) 0 (cb S[k]) S[k] (by rw [hb.len]; omega) (by
    have : ((cb (was16 S k)[k])).length = 128 := (was16_WB h k _ (by simp)).len
    simp [setL, hb.len, List.drop_of_length_le (show (cb (was16 S k)[k]).length ≤ 128 by omega)])
  rw [Nat.add_zero] at this
  rw [hg, Nat.zero_add, flat, this, flat]
  congr 1
  have h1 : 16 - k = (16 - (k + 1)) + 1 := by omega
  have h2 : (S.take k).length = k := by simp; omega
  unfold was16
  rw [h1, List.replicate_succ, List.set_append_right _ _ (by omega), h2, Nat.sub_self, List.set_cons_zero, List.take_succ_eq_append_getElem (show k < S.length by omega), List.append_assoc]
  rfl
theorem was16_get {S : List Blk} (hS : 16 ≤ S.length) (h : ∀ b ∈ S, WB b) {k : Nat} (hk : k < 16) : ((flat (was16 S 16)).drop (0 + k * 128)).take (cb (S.getD k [])).length = cb (S.getD k []) := by
  have hl := was16_len hS (k := 16) (by omega)
  have hg : S.getD k [] = (was16 S 16)[k]'(by omega) := by
    simp [was16, show k < S.length by omega]
  have hb : WB ((was16 S 16)[k]'(by omega)) := was16_WB h 16 _ (by simp)
  have := rows_get cb 128 (was16 S 16) (fun x hx => (was16_WB h 16 x hx).len) k (by omega) 0 128 (by omega)
  rw [hg, hb.len, Nat.zero_add]
  rw [Nat.add_zero, List.drop_zero] at this
  rw [flat, this, List.take_of_length_le (by rw [hb.len]; omega)]
theorem Lv.readG {i : Nat} {D : DS} (h : Lv i D) (k : Nat) (hk : k < 64) : D.read k = (valOf D.sure D.loose k, 0) ∧ WB (valOf D.sure D.loose k) := by
  constructor
  · simp [DS.read, h.lit k hk, DS.get, valOf, lastOf]; rfl
  · unfold valOf
    split
    · rename_i p hp
      have := List.mem_of_find?_eq_some hp
      exact (h.wf.lb p (by simpa using this)).2
    · exact getD_WB h.wf.wb (by rw [h.len]; exact hk)
theorem fill_int {cells : List Value} (hc : cells.length = 1) (k : IntKind) (z : Int) : fillL (fun i => some (i * 1, 1)) cells [(0, .int k z)] = some [.int k z] := by
  simp [fillL, Value.cells, setL, hc, List.drop_of_length_le]
end Go.Proofs.YtlckhaodecdbbaaGreatDoor
