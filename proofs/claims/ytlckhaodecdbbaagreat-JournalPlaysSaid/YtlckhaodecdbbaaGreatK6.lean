/- Part K6: Jq, Ju, Jv, Jj, Jr, Jw, L7, Jx, Cw, L7o, L7s, Rhd, Rw8, Ls, L4q. -/
import Derived.Test.YtlckhaodecdbbaaGreatK5
import Derived.Test.YtlckhaodecdbbaaGreatK2
import Derived.Test.YtlckhaodecdbbaaGreatK4
import Derived.Test.YtlckhaodecdbbaaGreatK3
set_option linter.unusedVariables false
set_option linter.unusedSimpArgs false
/-! The journal in plain Lean: what is laid, wherever the power is cut. No program in sight. -/
namespace Go.Cx
theorem settleL_ne (picks : List Int) (o k : Nat) : ∀ (l : List (Nat × Blk)) (S : List Blk) (i : Nat), (∀ p ∈ l, p.1 ≠ k) → (settleL S picks o i l).getD k [] = S.getD k []
  | [], _, _, _ => rfl
  | p :: l, S, i, h => by
    simp only [settleL]
    rw [settleL_ne picks o k l _ _ (fun q hq => h q (by simp [hq]))]
    simp [List.getD, List.getElem?_set_ne (h p (by simp))]
theorem JSt.settled {S : List Blk} {J : JM} {bs : List Blk} (h : JSt S J bs) {l : List (Nat × Blk)} (hl : ∀ p ∈ l, ¬ Live S J p.1 ∧ p.1 < S.length ∧ WB p.2) (picks : List Int) (o i : Nat) : JSt (settleL S picks o i l) J bs :=
  h.congr (length_settleL _ _ _ _ _) (settleL_WB _ _ _ _ _ h.wb fun p hp => ⟨(hl p hp).2.1, (hl p hp).2.2⟩) fun k hk => settleL_ne picks o k l S i fun p hp e => (hl p hp).1 (by rw [e]; exact hk)
/-- The writes of blocks from one on. -/
def putsAt (at_ : Nat) (l : List Blk) : List (Nat × Blk) := (List.range l.length).map fun i => (at_ + i, l.getD i [])
theorem torn128 {a b : Blk} (ha : WB a) (hb : WB b) : torn a b 128 = b := by
  unfold torn; rw [List.take_of_length_le (by rw [hb]; omega), List.drop_of_length_le (by rw [ha]; omega)]; simp
theorem settle_puts (S : List Blk) (at_ : Nat) (l : List Blk) (hS : ∀ b ∈ S, WB b) (hl : ∀ b ∈ l, WB b) (hat : at_ + l.length ≤ S.length) (k : Nat) : ∀ (m : Nat), m ≤ l.length →
    (settleL S [] 128 0 ((List.range m).map fun i => (at_ + i, l.getD i []))).getD k [] = if at_ ≤ k ∧ k < at_ + m then l.getD (k - at_) [] else S.getD k []
  | 0, _ => by rw [if_neg (by omega)]; rfl
  | m + 1, hm => by
    have ih := settle_puts S at_ l hS hl hat k m (by omega)
    have hw := settleL_WB [] 128 ((List.range m).map fun i => (at_ + i, l.getD i [])) S 0 hS (fun p hp => by
      simp only [List.mem_map, List.mem_range] at hp
      obtain ⟨i, hi, rfl⟩ := hp
      exact ⟨by dsimp only; omega, getD_WB hl (by omega)⟩)
    have hlen := length_settleL [] 128 ((List.range m).map fun i => (at_ + i, l.getD i [])) S 0
    rw [List.range_succ, List.map_append, List.map_cons, List.map_nil, settleL_snoc]
    simp only [pickAt, List.getElem?_nil]
    rw [torn128 (getD_WB hw (by omega)) (getD_WB hl (by omega))]
    by_cases e : k = at_ + m
    · subst e
      rw [if_pos (by omega), Nat.add_sub_cancel_left]
      have : at_ + m < (settleL S [] 128 0 ((List.range m).map fun i => (at_ + i, l.getD i []))).length := by omega
      rw [List.getD_eq_getElem?_getD, List.getElem?_set_self this]; rfl
    · have : ∀ (T : List Blk) (x : Blk), (T.set (at_ + m) x).getD k [] = T.getD k [] := fun T x => by simp [List.getD, List.getElem?_set_ne (Ne.symm e)]
      rw [this, ih]
      by_cases h1 : at_ ≤ k ∧ k < at_ + m
      · rw [if_pos h1, if_pos (by omega)]
      · rw [if_neg h1, if_neg (by omega)]
/-- What laying asks, and comes to. -/
structure LayOk (S : List Blk) (J : JM) (at_ : Nat) (l : List Blk) (h : HdM) (bs : List Blk) : Prop where
  wl : ∀ b ∈ l, WB b
  hi : at_ + l.length ≤ S.length
  free : ∀ k, at_ ≤ k → k < at_ + l.length → ¬ Live S J k
  n2 : J.n ≤ 59
  may : h.may
  blocks : h.blocks = (Cut bs).length
  batches : h.batches = bs.length
  room : h.blocks ≤ bankS S
  sz : ∀ b ∈ bs, b.length ≤ 1048576
  cnt : ∀ i, i < h.blocks → (if at_ ≤ firstS S h.bank + i ∧ firstS S h.bank + i < at_ + l.length then l.getD (firstS S h.bank + i - at_) [] else S.getD (firstS S h.bank + i) []) = (Cut bs).getD i []
/-- What is known behind steps that may be cut. -/
def CutTo (picks0 : Prop) (S : List Blk) (J : JM) (bs : List Blk) (J' : JM) (bs' : List Blk) (D : DS) : Prop :=
  D.dark = true ∧ ∀ picks, D.sure.length = S.length ∧ (JSt (settleL D.sure picks 0 0 D.loose) J bs ∨ JSt (settleL D.sure picks 0 0 D.loose) J' bs')
theorem step_two (D : DS) : (D.left ≠ 0 ∧ D.step = (9, { D with dark := true })) ∨ (D.step = (0, { D with left := max (D.left - 1) 0, steps := D.steps + 1 })) := by
  unfold DS.step
  by_cases h : D.left = 1
  · rw [if_pos h]; exact .inl ⟨by omega, rfl⟩
  · rw [if_neg h]; exact .inr rfl
structure Wrote (S : List Blk) (at_ : Nat) (l : List Blk) (i : Nat) (D0 D : DS) : Prop where
  lit : D.dark = false
  sure : D.sure = S
  loose : D.loose = (List.range i).map fun j => (at_ + j, l.getD j [])
  left : D0.left = 0 → D.left = 0
theorem run_writes {S : List Blk} {at_ : Nat} {l : List Blk} (hi : at_ + l.length ≤ S.length) (D0 : DS) (rest : List (DS → Int × DS)) : ∀ (m i : Nat) (D : DS), i + m = l.length → Wrote S at_ l i D0 D →
    (∃ D', Wrote S at_ l l.length D0 D' ∧ runM (((List.range' i m).map fun (j : Nat) (D : DS) => D.write ((at_ : Int) + (j : Int)) (l.getD j [])) ++ rest) D = runM rest D') ∨
    (∃ D' k, k ≤ l.length ∧ D0.left ≠ 0 ∧ D'.dark = true ∧ D'.sure = S ∧ D'.loose = ((List.range k).map fun j => (at_ + j, l.getD j [])) ∧ runM (((List.range' i m).map fun (j : Nat) (D : DS) => D.write ((at_ : Int) + (j : Int)) (l.getD j [])) ++ rest) D = (9, D'))
  | 0, i, D, h, w => .inl ⟨D, by rw [Nat.add_zero] at h; rw [← h]; exact w, by simp⟩
  | m + 1, i, D, h, w => by
    have hlit : D.lit ((at_ : Int) + (i : Int)) = 0 := by
      unfold DS.lit DS.there errOf
      rw [w.lit, if_neg (by simp), if_pos (by rw [w.sure]; omega)]
    rw [List.range'_succ, List.map_cons, List.cons_append, runM]
    rcases step_two D with ⟨h1, h2⟩ | h2
    · right
      have e : D.write ((at_ : Int) + (i : Int)) (l.getD i []) = (9, { D with dark := true }) := by
        unfold DS.write; rw [hlit, h2]; simp
      refine ⟨{ D with dark := true }, i, by omega, fun h0 => h1 (w.left h0), rfl, w.sure, w.loose, ?_⟩
      rw [e]; simp
    · have e : D.write ((at_ : Int) + (i : Int)) (l.getD i []) = (0, { D with left := max (D.left - 1) 0, steps := D.steps + 1, loose := D.loose ++ [(at_ + i, l.getD i [])] }) := by
        unfold DS.write; rw [hlit, h2]; simp
        omega
      rw [e]
      simp only [ne_eq, not_true_eq_false, if_false]
      exact run_writes hi D0 rest m (i + 1) _ (by omega) ⟨w.lit, w.sure, by simp [w.loose, List.range_succ], fun h0 => by have := w.left h0; dsimp only; omega⟩
theorem live_lt {S : List Blk} {J : JM} {bs : List Blk} (h : JSt S J bs) {k : Nat} (hk : 2 ≤ k) : ¬ k < 2 := by omega
/-- A head is written over the slot that counts less. -/
theorem head_new {S : List Blk} {J : JM} {bs : List Blk} {h : HdM} {bs' : List Blk} {s : Nat} (j : JSt S J bs) (hs : s < 2) (h1 : S.getD s [] = (putH J.n J.h).1) (h2 : Slot J.n (S.getD (1 - s) [])) (n2 : J.n ≤ 59)
    (may : h.may) (blocks : h.blocks = (Cut bs').length) (batches : h.batches = bs'.length) (room : h.blocks ≤ bankS S) (sz : ∀ b ∈ bs', b.length ≤ 1048576)
    (cnt : ∀ i, i < h.blocks → S.getD (firstS S h.bank + i) [] = (Cut bs').getD i []) {n : Nat} (hn : n ≤ 128) :
    (JSt (S.set (1 - s) (torn (S.getD (1 - s) []) (putH (J.n + 1) h).1 n)) J bs ∨ JSt (S.set (1 - s) (torn (S.getD (1 - s) []) (putH (J.n + 1) h).1 n)) ⟨J.n + 1, h⟩ bs') ∧
    (n = 128 → JSt (S.set (1 - s) (torn (S.getD (1 - s) []) (putH (J.n + 1) h).1 n)) ⟨J.n + 1, h⟩ bs') := by
  have hp := putH_ok (n := J.n + 1) (h := h) (by omega) (by omega) may
  have hp0 := putH_ok (n := J.n) (h := J.h) j.n1 j.n2 j.may
  have lo := j.lo
  have hb9 : h.bytes.length ≤ 108 := by rw [bytes_len]; omega
  rw [hp]
  dsimp only
  have key := slot_torn (m := J.n + 1) h2 (by omega) hb9 hn
  have wl : ∀ X, WB X → ∀ b ∈ S.set (1 - s) X, WB b := fun X hX b hb => by
    rcases List.mem_or_eq_of_mem_set hb with hb | rfl
    · exact j.wb b hb
    · exact hX
  have g1 : ∀ X, (S.set (1 - s) X).getD (1 - s) [] = X := fun X => by simp [List.getD, List.getElem?_set_self (show 1 - s < S.length by omega)]
  have g2 : ∀ X k, k ≠ 1 - s → (S.set (1 - s) X).getD k [] = S.getD k [] := fun X k hk => by simp [List.getD, List.getElem?_set_ne (Ne.symm hk)]
  have hbk : ∀ X, bankS (S.set (1 - s) X) = bankS S := fun X => by unfold bankS; rw [List.length_set]
  have hfs : ∀ X b, firstS (S.set (1 - s) X) b = firstS S b := fun X b => by unfold firstS; rw [hbk]
  have f2 : ∀ b, 2 ≤ firstS S b := fun b => by unfold firstS; omega
  have old : ∀ X, Slot J.n X → JSt (S.set (1 - s) X) J bs := fun X hX => by
    refine ⟨by rw [List.length_set]; exact j.lo, by rw [List.length_set]; exact j.hi, wl X hX.wb, j.n1, j.n2, j.may, j.blocks, j.batches, by rw [hbk]; exact j.room, j.sz, fun i hi => ?_, s, hs, ?_, ?_⟩
    · rw [hfs, g2 _ _ (by have := f2 J.h.bank; omega)]; exact j.cnt i hi
    · rw [g2 _ _ (by omega)]; exact h1
    · rw [g1]; exact hX
  have new : JSt (S.set (1 - s) (sealB (J.n + 1) h.bytes)) ⟨J.n + 1, h⟩ bs' := by
    refine ⟨by rw [List.length_set]; exact j.lo, by rw [List.length_set]; exact j.hi, wl _ (sealB_WB hb9), by dsimp only; omega, by dsimp only; omega, may, blocks, batches, by rw [hbk]; exact room, sz, fun i hi => ?_, 1 - s, by omega, ?_, ?_⟩
    · dsimp only at hi ⊢
      rw [hfs, g2 _ _ (by have := f2 h.bank; omega)]; exact cnt i hi
    · rw [g1, hp]
    · dsimp only
      rw [show 1 - (1 - s) = s by omega, g2 _ _ (by omega), h1, hp0]
      exact slot_seal (by omega) j.n2 (by rw [bytes_len]; omega)
  have hfull : n = 128 → torn (S.getD (1 - s) []) (sealB (J.n + 1) h.bytes) n = sealB (J.n + 1) h.bytes := fun e => by subst e; exact torn128 h2.wb (sealB_WB hb9)
  refine ⟨?_, fun e => by rw [hfull e]; exact new⟩
  rcases key with e | e
  · rw [e]; exact .inr new
  · exact .inl (old _ e)
/-- Laying, wherever the power is cut. -/
theorem lay_out {D : DS} {J : JM} {bs bs' : List Blk} {at_ : Nat} {l : List Blk} {h : HdM} (j : JSt D.sure J bs) (c : Calm D) (o : LayOk D.sure J at_ l h bs') :
    ((layM J at_ l h D).1 = 0 ∧ (layM J at_ l h D).2.1 = ⟨J.n + 1, h⟩ ∧ Calm (layM J at_ l h D).2.2 ∧ (layM J at_ l h D).2.2.sure.length = D.sure.length ∧ JSt (layM J at_ l h D).2.2.sure ⟨J.n + 1, h⟩ bs' ∧ (D.left = 0 → (layM J at_ l h D).2.2.left = 0)) ∨
    ((layM J at_ l h D).1 = 9 ∧ D.left ≠ 0 ∧ (layM J at_ l h D).2.1 = J ∧ (layM J at_ l h D).2.2.dark = true ∧ (layM J at_ l h D).2.2.sure.length = D.sure.length ∧
      ∀ picks, JSt ((layM J at_ l h D).2.2.crash picks).sure J bs ∨ JSt ((layM J at_ l h D).2.2.crash picks).sure ⟨J.n + 1, h⟩ bs') := by
  obtain ⟨S, hS⟩ : ∃ S, S = D.sure := ⟨_, rfl⟩
  rw [← hS] at j o ⊢
  have lo := j.lo
  have hw0 : Wrote S at_ l 0 D D := ⟨c.lit, hS.symm, by simp [c.loose], fun h => h⟩
  have hrun := run_writes o.hi D [DS.flush, markM J h, DS.flush] l.length 0 D (by omega) hw0
  have hls : layS J at_ l h = ((List.range' 0 l.length).map fun (j : Nat) (D : DS) => D.write ((at_ : Int) + (j : Int)) (l.getD j [])) ++ [DS.flush, markM J h, DS.flush] := by
    unfold layS writesM; rw [List.range_eq_range']
  rw [← hls] at hrun
  have hputs : ∀ k, k ≤ l.length → ∀ p ∈ (List.range k).map (fun j => (at_ + j, l.getD j [])), ¬ Live S J p.1 ∧ p.1 < S.length ∧ WB p.2 := fun k hk p hp => by
    have oh := o.hi
    simp only [List.mem_map, List.mem_range] at hp
    obtain ⟨i, hi, rfl⟩ := hp
    exact ⟨o.free _ (by dsimp only; omega) (by dsimp only; omega), by dsimp only; omega, getD_WB o.wl (by omega)⟩
  have dark : ∀ (D' : DS), D'.dark = true → D.left ≠ 0 → D'.sure.length = S.length → (∀ picks, JSt (D'.crash picks).sure J bs ∨ JSt (D'.crash picks).sure ⟨J.n + 1, h⟩ bs') → runM (layS J at_ l h) D = (9, D') →
      ((layM J at_ l h D).1 = 9 ∧ D.left ≠ 0 ∧ (layM J at_ l h D).2.1 = J ∧ (layM J at_ l h D).2.2.dark = true ∧ (layM J at_ l h D).2.2.sure.length = S.length ∧
      ∀ picks, JSt ((layM J at_ l h D).2.2.crash picks).sure J bs ∨ JSt ((layM J at_ l h D).2.2.crash picks).sure ⟨J.n + 1, h⟩ bs') := fun D' h1 h2 h3 h4 h5 => by
    unfold layM; rw [h5]; exact ⟨rfl, h2, rfl, h1, h3, h4⟩
  rcases hrun with ⟨D1, w1, e1⟩ | ⟨D1, k, hk, hl0, hd, hs1, hlo, e1⟩
  rotate_left
  · refine .inr (dark D1 hd hl0 (by rw [hs1]) (fun picks => .inl ?_) e1)
    show JSt (settleL D1.sure picks 0 0 D1.loose) J bs
    rw [hs1, hlo]
    exact j.settled (hputs k hk) _ _ _
  -- the first flush
  rw [runM] at e1
  have lit1 : D1.lit 0 = 0 := by
    unfold DS.lit DS.there errOf
    rw [w1.lit, if_neg (by simp), w1.sure, if_pos (by omega)]
  rcases step_two D1 with ⟨h1, h2⟩ | h2
  · have e : D1.flush = (9, { D1 with dark := true }) := by unfold DS.flush; rw [lit1, h2]; simp
    rw [e] at e1
    refine .inr (dark { D1 with dark := true } rfl (fun h0 => h1 (w1.left h0)) (by rw [w1.sure]) (fun picks => .inl ?_) (by rw [e1]; simp))
    show JSt (settleL D1.sure picks 0 0 D1.loose) J bs
    rw [w1.sure, w1.loose]
    exact j.settled (hputs _ (Nat.le_refl _)) _ _ _
  have e : D1.flush = (0, { D1 with sure := settleL S [] 128 0 ((List.range l.length).map fun j => (at_ + j, l.getD j [])), loose := [], left := max (D1.left - 1) 0, steps := D1.steps + 1 }) := by
    unfold DS.flush; rw [lit1, h2]; simp [DS.settle, w1.sure, w1.loose]
  have j2 : JSt (settleL S [] 128 0 ((List.range l.length).map fun j => (at_ + j, l.getD j []))) J bs := j.settled (hputs _ (Nat.le_refl _)) _ _ _
  have g2 := fun k => settle_puts S at_ l j.wb o.wl o.hi k l.length (Nat.le_refl _)
  have len2 := length_settleL [] 128 ((List.range l.length).map fun j => (at_ + j, l.getD j [])) S 0
  rw [e] at e1
  simp only [ne_eq, not_true_eq_false, if_false] at e1
  generalize settleL S [] 128 0 ((List.range l.length).map fun j => (at_ + j, l.getD j [])) = S2 at *
  obtain ⟨D2, hD2⟩ : ∃ D2 : DS, D2 = { D1 with sure := S2, loose := [], left := max (D1.left - 1) 0, steps := D1.steps + 1 } := ⟨_, rfl⟩
  rw [← hD2] at e1
  have c2 : Calm D2 := ⟨by rw [hD2]; exact w1.lit, by rw [hD2]⟩
  have s2 : D2.sure = S2 := by rw [hD2]
  have l2 : D.left = 0 → D2.left = 0 := fun h0 => by rw [hD2]; have := w1.left h0; dsimp only; omega
  -- the head
  rw [runM] at e1
  have hb2 := c2.both (by rw [s2]; omega)
  rw [s2] at hb2
  obtain ⟨s, hs, hnx, hs1, hs2⟩ := j2.newest.2
  have hp := putH_ok (n := J.n + 1) (h := h) (by omega) (by have := o.n2; omega) o.may
  have hpw := putH_WB (J.n + 1) h
  have em : markM J h D2 = D2.write ((1 - s : Nat) : Int) (putH (J.n + 1) h).1 := by
    unfold markM; rw [hb2]; simp only [ne_eq, not_true_eq_false, if_false]
    rw [if_neg (by rw [hp]; simp), hnx]
  have lit2 : D2.lit ((1 - s : Nat) : Int) = 0 := c2.litAt (by rw [s2]; omega)
  have bk2 : bankS S2 = bankS S := by unfold bankS; rw [len2]
  have fs2 : ∀ b, firstS S2 b = firstS S b := fun b => by unfold firstS; rw [bk2]
  have hn := fun {n : Nat} (hn : n ≤ 128) => head_new (n := n) (bs' := bs') j2 hs hs1 hs2 o.n2 o.may o.blocks o.batches (by rw [bk2]; exact o.room) o.sz (fun i hi => by rw [fs2, g2]; exact o.cnt i hi) hn
  rcases step_two D2 with ⟨h3, h4⟩ | h4
  · have e3 : D2.write ((1 - s : Nat) : Int) (putH (J.n + 1) h).1 = (9, { D2 with dark := true }) := by unfold DS.write; rw [lit2, h4]; simp
    rw [em, e3] at e1
    refine .inr (dark { D2 with dark := true } rfl (fun h0 => h3 (l2 h0)) (by dsimp only; rw [s2]; exact len2) (fun picks => .inl ?_) (by rw [e1]; simp))
    show JSt (settleL D2.sure picks 0 0 D2.loose) J bs
    rw [c2.loose, s2]; exact j2
  have e3 : D2.write ((1 - s : Nat) : Int) (putH (J.n + 1) h).1 = (0, { D2 with loose := [(1 - s, (putH (J.n + 1) h).1)], left := max (D2.left - 1) 0, steps := D2.steps + 1 }) := by
    unfold DS.write; rw [lit2, h4]; simp [c2.loose]
  rw [em, e3] at e1
  simp only [ne_eq, not_true_eq_false, if_false] at e1
  obtain ⟨D3, hD3⟩ : ∃ D3 : DS, D3 = { D2 with loose := [(1 - s, (putH (J.n + 1) h).1)], left := max (D2.left - 1) 0, steps := D2.steps + 1 } := ⟨_, rfl⟩
  rw [← hD3] at e1
  have s3 : D3.sure = S2 := by rw [hD3]; exact s2
  have lo3 : D3.loose = [(1 - s, (putH (J.n + 1) h).1)] := by rw [hD3]
  have dk3 : D3.dark = false := by rw [hD3]; exact c2.lit
  have l3 : D.left = 0 → D3.left = 0 := fun h0 => by rw [hD3]; have := l2 h0; dsimp only; omega
  -- the last flush
  rw [runM] at e1
  have lit3 : D3.lit 0 = 0 := by
    unfold DS.lit DS.there errOf
    rw [dk3, if_neg (by simp), s3, if_pos (by omega)]
  rcases step_two D3 with ⟨h5, h6⟩ | h6
  · have e4 : D3.flush = (9, { D3 with dark := true }) := by unfold DS.flush; rw [lit3, h6]; simp
    rw [e4] at e1
    refine .inr (dark { D3 with dark := true } rfl (fun h0 => h5 (l3 h0)) (by dsimp only; rw [s3]; exact len2) (fun picks => ?_) (by rw [e1]; simp))
    show JSt (settleL D3.sure picks 0 0 D3.loose) J bs ∨ JSt (settleL D3.sure picks 0 0 D3.loose) _ bs'
    rw [s3, lo3]
    simp only [settleL]
    refine (hn ?_).1
    unfold pickAt
    split <;> omega
  · have e4 : D3.flush = (0, { D3 with sure := settleL S2 [] 128 0 [(1 - s, (putH (J.n + 1) h).1)], loose := [], left := max (D3.left - 1) 0, steps := D3.steps + 1 }) := by
      unfold DS.flush; rw [lit3, h6]; simp [DS.settle, s3, lo3]
    rw [e4] at e1
    simp only [ne_eq, not_true_eq_false, if_false, runM] at e1
    left
    have el : layM J at_ l h D = (0, ⟨J.n + 1, h⟩, { D3 with sure := settleL S2 [] 128 0 [(1 - s, (putH (J.n + 1) h).1)], loose := [], left := max (D3.left - 1) 0, steps := D3.steps + 1 }) := by
      unfold layM; rw [e1]; simp
    rw [el]
    refine ⟨rfl, rfl, ⟨dk3, rfl⟩, ?_, ?_, fun h0 => by have := l3 h0; dsimp only; omega⟩
    · dsimp only; rw [length_settleL]; exact len2
    · dsimp only
      simp only [settleL, pickAt, List.getElem?_nil]
      exact (hn (Nat.le_refl _)).2 rfl
end Go.Cx
/-! The document's journal (ref 07): a batch's blocks, and laying, in the program. -/
namespace Go.Cx
/-- The first j bytes of a block from a place on. -/
theorem part_next {R : Blk} {k j : Nat} (hj : j < 128) (hk : k * 128 + j < R.length) : setL (cb (padB 128 ((R.drop (k * 128)).take j))) (0 + j * 1) [.int .u8 ((R[k * 128 + j]).toNat : Int)] = cb (padB 128 ((R.drop (k * 128)).take (j + 1))) := by
  have e : [Value.int .u8 ((R[k * 128 + j]).toNat : Int)] = cb [R[k * 128 + j]] := rfl
  have hl : ((R.drop (k * 128)).take j).length = j := by simp; omega
  rw [e, cb_setL, Nat.zero_add, Nat.mul_one]
  congr 1
  have e2 : (R.drop (k * 128)).take (j + 1) = (R.drop (k * 128)).take j ++ [R[k * 128 + j]] := by
    rw [List.take_succ_eq_append_getElem (by simp; omega)]; simp
  rw [e2]
  unfold padB
  rw [List.length_append, List.length_singleton, hl, List.take_append_of_le_length (by omega), List.take_of_length_le (by omega), List.append_assoc]
  congr 2
  rw [List.drop_append, List.drop_of_length_le (by omega), hl, List.nil_append, List.drop_replicate]
  congr 1; omega
end Go.Cx
namespace Go.Proofs.YtlckhaodecdbbaaGreat
open Go.Cx
attribute [local irreducible] Go.Cx.CX Go.Cx.CC Go.Cx.CQ Go.Cx.PS Go.Cx.Ctr Go.Cx.CH
set_option maxRecDepth 10000
theorem r7blocks_c (B : Blk) (hB : B.length ≤ 1048576) (a : Option Addr) (cap : Nat) (hn : a = none → B.length = 0 ∧ cap = 0) : Ctr Tryz.prog 67 [.slice a B.length cap] [] (fun x => rdx a B.length (cb B) x)
    (fun v M => ∃ a' c', v = .slice a' (cutB B).length c' ∧ M = [own 32 128 a' (cutB B).length c' (flat (cutB B))]) := by
  have hRl : (rowB B).length = 4 + B.length := rowB_length B
  have hlen : (cutB B).length = (4 + B.length + 127) / 128 := by rw [cut_len]; congr 1; omega
  refine Ctr.intro Tryz.func67 rfl Tryz.ntmps67 rfl fun x w hp => ?_
  refine wk ?_
  refine CX.callA (r1row_c B (by omega) a cap hn) ?_ (hpre := by exact rdx_ex (by first | exact pickA | exact updA) hp)
  rintro _ _ ⟨g, c, rfl, rfl⟩
  rw [← hRl]
  have hX : ∀ k (hk : k < (cutB B).length), (cutB B)[k] = padB 128 (((rowB B).drop (k * 128)).take 128) := fun k hk => chop_at (rowB B) k hk
  have hW : ∀ b ∈ cutB B, WB b := chop_WB _
  have hlenR : (cutB B).length = ((rowB B).length + 127) / 128 := by rw [hRl]; exact hlen
  have hRle : (rowB B).length ≤ 2000000 := by omega
  generalize cutB B = l at *
  generalize rowB B = R at *
  clear hRl hlen hn hp hB
  refine CX.ownNil 32 128 ?_
  refine wk ?_
  refine CC.loop (X := Nat × Option Addr × Nat) (fun s => [(5, .int .i64 ((s.1 * 128 : Nat) : Int)), (3, .slice (some ⟨g, 0, none⟩) R.length c), (4, .slice s.2.1 s.1 s.2.2)])
    (fun s => [own 32 128 s.2.1 s.1 s.2.2 (flat (l.take s.1)), own 5 1 (some ⟨g, 0, none⟩) R.length c (cb R), exact x]) (fun s => s.1 ≤ l.length) (fun s => l.length - s.1) (0, none, 0) (Nat.zero_le _) ⟨rfl, rfl, rfl, trivial⟩ (by exact selA) ?_
  rintro ⟨k, a4, c4⟩ hk
  dsimp only at hk ⊢
  by_cases h1 : k < l.length
  · have h2 : k * 128 < R.length := by omega
    have hXk := hX k h1
    have hWk := hW l[k] (List.getElem_mem h1)
    refine wk ?_
    refine CX.allocZ (cb zblk) ?_
    intro q
    refine wk ?_
    refine CC.loop (X := Nat) (fun j => [(7, .int .i64 (j : Int)), (6, .pointer (some ⟨q, 0, none⟩)), (5, .int .i64 ((k * 128 : Nat) : Int)), (3, .slice (some ⟨g, 0, none⟩) R.length c), (4, .slice a4 k c4)])
      (fun j => [bk q 32 (cb (padB 128 ((R.drop (k * 128)).take j))), own 32 128 a4 k c4 (flat (l.take k)), own 5 1 (some ⟨g, 0, none⟩) R.length c (cb R), exact x]) (fun j => j ≤ 128 ∧ k * 128 + j ≤ R.length) (fun j => 128 - j) 0 ⟨Nat.zero_le _, by omega⟩ ⟨rfl, rfl, rfl, rfl, rfl, trivial⟩ (by rw [List.take_zero, show padB 128 [] = zblk from rfl]; exact selA) ?_
    rintro j ⟨hj, hjR⟩
    by_cases h3 : j < 128 ∧ k * 128 + j < R.length
    · obtain ⟨h3, h4⟩ := h3
      have h3' : (j : Int) < 128 := by omega
      have h4' : ((k * 128 : Nat) : Int) + (j : Int) < (R.length : Int) := by omega
      have hpl : (padB 128 ((R.drop (k * 128)).take j)).length = 128 := padB_len (by simp; omega)
      refine wk ?_
      refine CX.ps (PS.indexAddr (j := k * 128 + j) rfl rfl rfl (by omega) h4) ?_
      (apply CX.ps; (· apply PS.load (v := .int .u8 ((R[k * 128 + j]).toNat : Int)); (· rfl); (· rfl); (· exact CellAt.own (by first | exact pickA | exact updA) (by rw [Nat.zero_add, Nat.mul_one]; exact cb_get R _ h4))))
      refine CX.ps (PS.indexArr (j := j) rfl rfl rfl rfl (by omega)) ?_
      (apply CX.storeC (v := .int .u8 ((R[k * 128 + j]).toNat : Int)); (· rfl); (· rfl); (· rfl); (· rfl); (· intro u hu; simp [Value.cells] at hu; rw [hu]; rfl))
      · first | exact pickA | exact updA
      · rw [length_cb, hpl]; omega
      have e1 : setL (cb (padB 128 ((R.drop (k * 128)).take j))) (0 + j * 1) (Value.int .u8 ((R[k * 128 + j]).toNat : Int)).cells.toList = cb (padB 128 ((R.drop (k * 128)).take (j + 1))) := part_next h3 h4
      rw [e1]
      refine wk ?_
      exact CQ.round (j + 1) ⟨by omega, by omega⟩ (by omega) ⟨eqI (by omega), rfl, rfl, rfl, rfl, trivial⟩ (by exact selA)
    · have hfull : padB 128 ((R.drop (k * 128)).take j) = l[k] := by
        rw [hXk]
        congr 1
        exact List.take_eq_take_iff.2 (by simp; omega)
      have htk : flat (l.take (k + 1)) = flat (l.take k) ++ cb l[k] := by
        rw [List.take_succ_eq_append_getElem h1]; unfold flat; rw [rows_append]; simp [rows]
      rw [hfull]
      by_cases h5 : j < 128
      · have h4 : ¬ ((k * 128 : Nat) : Int) + (j : Int) < (R.length : Int) := by omega
        refine wk ?_
        (apply CX.ps; (· apply PS.loadG (vs := cb l[k]); (· rfl); (· rfl); (· exact CellsAt.all (by first | exact pickA | exact updA)); (· exact hWk.len)))
        refine CX.buildSl (parts := [(0, _)]) (vs := [(0, .agg (cb l[k]).toArray)]) (out := cb l[k]) rfl rfl (by decide) (fill_one hWk.len (by simp)) fun bq => ?_
        refine CX.append (m := 1) (news := cb l[k]) rfl rfl rfl (by first | exact pickA | exact updA) (RdS.pick (b := bq) (o := 0) (by first | exact pickA | exact updA) hWk.len (one_cb _) (by rw [List.drop_zero, List.take_of_length_le (by rw [hWk.len]; omega)])) (by omega) (fun h => by cases h) ?_
        intro a3 c3
        rw [← htk]
        refine wk ?_
        exact CQ.round (x := (k, a4, c4)) (k + 1, a3, c3) h1 (by dsimp only; omega) ⟨eqI (by omega), rfl, rfl, trivial⟩ (by exact selA)
      · refine wk ?_
        (apply CX.ps; (· apply PS.loadG (vs := cb l[k]); (· rfl); (· rfl); (· exact CellsAt.all (by first | exact pickA | exact updA)); (· exact hWk.len)))
        refine CX.buildSl (parts := [(0, _)]) (vs := [(0, .agg (cb l[k]).toArray)]) (out := cb l[k]) rfl rfl (by decide) (fill_one hWk.len (by simp)) fun bq => ?_
        refine CX.append (m := 1) (news := cb l[k]) rfl rfl rfl (by first | exact pickA | exact updA) (RdS.pick (b := bq) (o := 0) (by first | exact pickA | exact updA) hWk.len (one_cb _) (by rw [List.drop_zero, List.take_of_length_le (by rw [hWk.len]; omega)])) (by omega) (fun h => by cases h) ?_
        intro a3 c3
        rw [← htk]
        refine wk ?_
        exact CQ.round (x := (k, a4, c4)) (k + 1, a3, c3) h1 (by dsimp only; omega) ⟨eqI (by omega), rfl, rfl, trivial⟩ (by exact selA)
  · obtain rfl : k = l.length := by omega
    rw [List.take_length]
    refine wk ?_
    (apply CQ.end1; (· rfl); (· exact .tmp rfl))
    · exact ⟨a4, c4, rfl, rfl⟩
    · exact selA
end Go.Proofs.YtlckhaodecdbbaaGreat
/-! The document's journal (ref 07): laying, in the program. -/
namespace Go.Cx
def restS (J : JM) (at_ : Nat) (l : List Blk) (k : HdM) (i m : Nat) : List (DS → Int × DS) := ((List.range' i m).map fun (j : Nat) (D : DS) => D.write ((at_ : Int) + (j : Int)) (l.getD j [])) ++ [DS.flush, markM J k, DS.flush]
theorem restS_0 (J : JM) (at_ : Nat) (l : List Blk) (k : HdM) : layS J at_ l k = restS J at_ l k 0 l.length := by
  unfold layS writesM restS; rw [List.range_eq_range']
theorem wrote_step {S : List Blk} {at_ : Nat} {l : List Blk} (hi : at_ + l.length ≤ S.length) {D0 E : DS} {i : Nat} (h : i < l.length) (w : Wrote S at_ l i D0 E) (J : JM) (k : HdM) :
    (E.write ((at_ : Int) + (i : Int)) l[i] = (9, { E with dark := true }) ∧ runM (restS J at_ l k i (l.length - i)) E = (9, { E with dark := true })) ∨
    ∃ E', E.write ((at_ : Int) + (i : Int)) l[i] = (0, E') ∧ Wrote S at_ l (i + 1) D0 E' ∧ runM (restS J at_ l k i (l.length - i)) E = runM (restS J at_ l k (i + 1) (l.length - (i + 1))) E' := by
  have hlit : E.lit ((at_ : Int) + (i : Int)) = 0 := by
    unfold DS.lit DS.there errOf
    rw [w.lit, if_neg (by simp), if_pos (by rw [w.sure]; omega)]
  have eg : l.getD i [] = l[i] := by simp [List.getD, h]
  have hr : restS J at_ l k i (l.length - i) = (fun (D : DS) => D.write ((at_ : Int) + (i : Int)) (l.getD i [])) :: restS J at_ l k (i + 1) (l.length - (i + 1)) := by
    unfold restS
    rw [show l.length - i = (l.length - (i + 1)) + 1 by omega, List.range'_succ, List.map_cons, List.cons_append]
  rw [hr, runM, eg]
  rcases step_two E with ⟨h1, h2⟩ | h2
  · left
    have e : E.write ((at_ : Int) + (i : Int)) l[i] = (9, { E with dark := true }) := by
      unfold DS.write; rw [hlit, h2]; simp
    rw [e]; simp
  · right
    have e : E.write ((at_ : Int) + (i : Int)) l[i] = (0, { E with left := max (E.left - 1) 0, steps := E.steps + 1, loose := E.loose ++ [(at_ + i, l[i])] }) := by
      unfold DS.write; rw [hlit, h2]; simp
      omega
    refine ⟨_, e, ⟨w.lit, w.sure, by simp [w.loose, List.range_succ, h], fun h0 => by have := w.left h0; dsimp only; omega⟩, ?_⟩
    rw [e]; simp
theorem run_one (f : DS → Int × DS) (D : DS) : runM [f] D = f D := by
  rw [runM]
  by_cases h : (f D).1 = 0
  · rw [if_neg (by simp [h]), runM, ← h]
  · rw [if_pos h]
end Go.Cx
namespace Go.Proofs.YtlckhaodecdbbaaGreat
open Go.Cx
attribute [local irreducible] Go.Cx.CX Go.Cx.CC Go.Cx.CQ Go.Cx.PS Go.Cx.Ctr Go.Cx.CH
set_option maxRecDepth 10000
theorem r7lay_c (q r : Nat) (J : JM) (at_ : Nat) (hat : at_ ≤ 1000000) (l : List Blk) (hW : ∀ b ∈ l, WB b) (hll : l.length ≤ 5000) (a : Option Addr) (c : Nat) (k : HdM) (hk : k.may) (D : DS) {N : Nat} (h : D.wf N) (hN : N + l.length + 3 < 999990) (cm : Cx.Calm D) (hi : at_ + l.length ≤ D.sure.length) (hJ : J.n < 4611686018427387904)
    (hnew : (newH ((settleL D.sure [] 128 0 ((List.range l.length).map fun i => (at_ + i, l.getD i []))).getD 0 []) ((settleL D.sure [] 128 0 ((List.range l.length).map fun i => (at_ + i, l.getD i []))).getD 1 [])).1 = J.n) :
    Ctr Tryz.prog 68 [.pointer (some ⟨q, 0, none⟩), .int .i64 (at_ : Int), .slice a l.length c, .agg (hc k).toArray] [rjA q r, rdisk r D] (fun x => rdx a (l.length * 128) (flat l) x)
    (fun v M => v = .int .i64 (runM (layS J at_ l k) D).1 ∧ M = [rjA q r, rdisk r (runM (layS J at_ l k) D).2]) := by
  unfold rjA
  refine Ctr.intro Tryz.func68 rfl Tryz.ntmps68 rfl fun x w hp => ?_
  refine wk ?_
  (refine CX.boxA (vs := hc k) ?_; intro q7)
  refine wk ?_
  refine CC.loop (X := Nat × DS) (fun s => [(9, .int .i64 (s.1 : Int)), (0, .pointer (some ⟨q, 0, none⟩)), (1, .int .i64 (at_ : Int)), (2, .slice a l.length c), (7, .pointer (some ⟨q7, 0, none⟩))])
    (fun s => [bk q 99 [.pointer (some ⟨r, 0, none⟩)], rdisk r s.2, bk q7 36 (hc k), exact x]) (fun s => s.1 ≤ l.length ∧ s.2.wf (N + s.1) ∧ Wrote D.sure at_ l s.1 D s.2 ∧ runM (layS J at_ l k) D = runM (restS J at_ l k s.1 (l.length - s.1)) s.2) (fun s => l.length - s.1) (0, D)
    ⟨Nat.zero_le _, h, ⟨cm.lit, rfl, by simp [cm.loose], fun h => h⟩, by rw [restS_0]; rfl⟩ ⟨rfl, rfl, rfl, rfl, rfl, trivial⟩ (by exact selA) ?_
  rintro ⟨i, E⟩ ⟨hil, hE, hw, hrun⟩
  dsimp only at hil hE hw hrun ⊢
  by_cases h1 : i < l.length
  · have hb := hW l[i] (List.getElem_mem h1)
    obtain ⟨g, off, rfl⟩ := rdx_some hp (by omega)
    have hcw := rwrite_c r E ((at_ : Int) + (i : Int)) l[i] hb hE (by omega)
    have hwf := write_wf hE ((at_ : Int) + (i : Int)) hb
    have hcell : ∀ {L L' : List Assn}, Pick (exact x) L L' → CellsAt L g (off + i * 128) (cb l[i]) := fun pk => CellsAt.row pk hp (by omega) (fun y hy => (hW y hy).len) h1
    rcases wrote_step hi h1 hw J k with ⟨e, er⟩ | ⟨E', e, w', er⟩
    · rw [hrun, er]
      rw [e] at hcw
      generalize l[i] = b at *
      refine wk ?_
      refine CC.draw [(0, 0), (1, 0), (2, 0), (3, 1), (4, 0), (5, 0), (6, 0), (7, 0), (8, 0), (9, 0), (10, 1), (11, 3), (12, 0)] mixed rfl (by kernel_rfl) (by kernel_rfl) [bk q 99 [.pointer (some ⟨r, 0, none⟩)], exact x] ?_
      refine hwk ?_
      refine CH.pure rfl (PS.indexAddr (j := i) rfl rfl rfl rfl h1) ?_
      (apply CH.read; (· rfl); (· apply PS.loadG (vs := cb b); (· rfl); (· rfl); (· exact hcell (by first | exact pickA | exact updA)); (· exact hb.len)); (· exact selA))
      refine CH.tail rfl rfl fun K hK => ?_
      refine CX.callA (hcw) ?_
      rintro _ _ ⟨rfl, rfl⟩
      (refine CX.nil ?_; refine CQ.thenK ?_; apply hK; clear hK K)
      refine hwk ?_
      refine wk ?_
      ((apply CQ.end1; (· rfl); (· exact .tmp rfl)); (· exact ⟨rfl, rfl⟩); (· exact selA))
    · rw [er] at hrun
      rw [e] at hcw hwf
      generalize l[i] = b at *
      refine wk ?_
      refine CC.draw [(0, 0), (1, 0), (2, 0), (3, 1), (4, 0), (5, 0), (6, 0), (7, 0), (8, 0), (9, 0), (10, 1), (11, 3), (12, 0)] mixed rfl (by kernel_rfl) (by kernel_rfl) [bk q 99 [.pointer (some ⟨r, 0, none⟩)], exact x] ?_
      refine hwk ?_
      refine CH.pure rfl (PS.indexAddr (j := i) rfl rfl rfl rfl h1) ?_
      (apply CH.read; (· rfl); (· apply PS.loadG (vs := cb b); (· rfl); (· rfl); (· exact hcell (by first | exact pickA | exact updA)); (· exact hb.len)); (· exact selA))
      refine CH.tail rfl rfl fun K hK => ?_
      refine CX.callA (hcw) ?_
      rintro _ _ ⟨rfl, rfl⟩
      (refine CX.nil ?_; refine CQ.thenK ?_; apply hK; clear hK K)
      refine hwk ?_
      refine wk ?_
      exact CQ.round (x := (i, E)) (i + 1, E') ⟨by dsimp only; omega, by dsimp only; rw [← Nat.add_assoc]; exact hwf, w', hrun⟩ (by dsimp only; omega) ⟨eqI (by simp), rfl, rfl, rfl, rfl, trivial⟩ (by exact selA)
  obtain rfl : i = l.length := by omega
  rw [Nat.sub_self] at hrun
  have hrest : restS J at_ l k l.length 0 = [DS.flush, markM J k, DS.flush] := rfl
  rw [hrest, runM] at hrun
  have hlo := h.lo
  have lit1 : E.lit 0 = 0 := by
    unfold DS.lit DS.there errOf
    rw [hw.lit, if_neg (by simp), hw.sure, if_pos (by omega)]
  have hcf := rflush_c r E hE (by omega)
  have hfw := flush_wf hE
  rcases step_two E with ⟨h2, h3⟩ | h3
  · have e : E.flush = (9, { E with dark := true }) := by unfold DS.flush; rw [lit1, h3]; simp
    rw [e] at hrun hcf
    simp only [ne_eq, show ¬ (9 : Int) = 0 by decide, not_false_eq_true, if_true] at hrun
    rw [hrun]
    refine wk ?_
    refine CX.callA (hcf) ?_
    rintro _ _ ⟨rfl, rfl⟩
    refine wk ?_
    ((apply CQ.end1; (· rfl); (· exact .tmp rfl)); (· exact ⟨rfl, rfl⟩); (· exact selA))
  have e : E.flush = (0, { E with sure := settleL D.sure [] 128 0 ((List.range l.length).map fun j => (at_ + j, l.getD j [])), loose := [], left := max (E.left - 1) 0, steps := E.steps + 1 }) := by
    unfold DS.flush; rw [lit1, h3]; simp [DS.settle, hw.sure, hw.loose]
  have len2 := length_settleL [] 128 ((List.range l.length).map fun j => (at_ + j, l.getD j [])) D.sure 0
  rw [e] at hrun hcf hfw
  generalize settleL D.sure [] 128 0 ((List.range l.length).map fun j => (at_ + j, l.getD j [])) = S2 at *
  obtain ⟨D2, hD2⟩ : ∃ D2 : DS, D2 = { E with sure := S2, loose := [], left := max (E.left - 1) 0, steps := E.steps + 1 } := ⟨_, rfl⟩
  rw [← hD2] at hrun hcf hfw
  simp only [ne_eq, not_true_eq_false, if_false] at hrun
  have c2 : Cx.Calm D2 := ⟨by rw [hD2]; exact hw.lit, by rw [hD2]⟩
  have s2 : D2.sure = S2 := by rw [hD2]
  have hb2 := c2.both (by rw [s2]; omega)
  have r0 := c2.read (k := 0) (by rw [s2]; omega)
  have r1 := c2.read (k := 1) (by rw [s2]; omega)
  rw [s2] at hb2 r0 r1
  replace r0 : D2.read 0 = (S2.getD 0 [], 0) := r0
  replace r1 : D2.read 1 = (S2.getD 1 [], 0) := r1
  have hnr : newR D2 = newH (S2.getD 0 []) (S2.getD 1 []) := by unfold newR; rw [r0, r1]
  have w0 : WB (S2.getD 0 []) := by have := read_WB hfw 0; rw [r0] at this; exact this
  have w1 : WB (S2.getD 1 []) := by have := read_WB hfw 1; rw [r1] at this; exact this
  have hcn := r7newest_c q r D2 hfw (by omega)
  have hc0 := r7read_c q r D2 0 hfw (by omega)
  have hc1 := r7read_c q r D2 1 hfw (by omega)
  unfold rjA at hcn hc0 hc1
  rw [hnr] at hcn
  rw [r0] at hc0
  rw [r1] at hc1
  have hput : (putH (J.n + 1) k).2 = 0 := (put_iff _ _).2 ⟨by omega, by unfold most; omega, hk⟩
  have hcp := r6put_c (J.n + 1) (by simp only [top]; omega) k (may_ok hk)
  have hpw := putH_WB (J.n + 1) k
  have em : markM J k D2 = D2.write (nextM (S2.getD 0 []) (S2.getD 1 [])) (putH (J.n + 1) k).1 := by
    unfold markM; rw [hb2]; simp only [ne_eq, not_true_eq_false, if_false]
    rw [if_neg (by simp [hput])]
  rw [runM, em, run_one] at hrun
  rw [hput] at hcp
  have hcw := rwrite_c r D2 (nextM (S2.getD 0 []) (S2.getD 1 [])) (putH (J.n + 1) k).1 hpw hfw (by omega)
  have hww := write_wf hfw (nextM (S2.getD 0 []) (S2.getD 1 [])) hpw
  have hcx := r5next_c (S2.getD 0 []) (S2.getD 1 []) w0 w1
  generalize (putH (J.n + 1) k).1 = X at *
  generalize D2.write (nextM (S2.getD 0 []) (S2.getD 1 [])) X = u at *
  generalize nextM (S2.getD 0 []) (S2.getD 1 []) = nx at *
  generalize newH (S2.getD 0 []) (S2.getD 1 []) = nw at *
  generalize S2.getD 0 [] = A at *
  generalize S2.getD 1 [] = B at *
  have hnw : (nw.1 : Int) + 1 = ((J.n + 1 : Nat) : Int) := by omega
  refine wk ?_
  refine CX.callA (hcf) ?_
  rintro _ _ ⟨rfl, rfl⟩
  refine wk ?_
  refine CX.callA (hcn) ?_
  rintro _ _ ⟨rfl, rfl⟩
  refine wk ?_
  refine CX.allocZ (hc HdM.z) ?_ (hv := rfl)
  intro q13
  refine wk ?_
  (refine CX.storeB (vs := hc nw.2.1) ?_ ?_ ?_ ?_; (· rfl); (· rfl); (· exact one_all rfl))
  refine wk ?_
  rw [hnw]
  (apply CX.ps; (· apply PS.loadG (vs := hc k); (· rfl); (· rfl); (· exact CellsAt.all (by first | exact pickA | exact updA)); (· rfl)))
  refine CX.callA (hcp) ?_
  rintro _ _ ⟨rfl, rfl⟩
  refine wk ?_
  refine CX.allocZ (cb zblk) ?_
  intro q15
  (apply CX.storeAll; (· rfl); (· rfl); (· rfl); (· first | exact pickA | exact updA); (· exact hpw.len); (· exact WB_z.len); (· exact one_cb _))
  refine wk ?_
  refine CC.draw [(0, 0), (1, 0), (2, 0), (3, 1), (4, 0), (6, 0), (9, 1), (5, 2), (7, 2), (8, 2), (10, 3), (11, 0)] mixed rfl (by kernel_rfl) (by kernel_rfl) [bk q 99 [.pointer (some ⟨r, 0, none⟩)], bk q15 32 (cb X)] ?_
  refine hwk ?_
  (apply CH.read; (· rfl); (· apply PS.loadG (vs := cb X); (· rfl); (· rfl); (· exact CellsAt.all (by first | exact pickA | exact updA)); (· exact hpw.len)); (· exact selA))
  refine CH.chain rfl fun K hK => ?_
  refine CX.callA (hc0) ?_
  rintro _ _ ⟨rfl, rfl⟩
  (refine CX.nil ?_; refine CQ.thenK ?_; apply hK; (· exact selA); clear hK K)
  refine CH.chain rfl fun K hK => ?_
  refine CX.callA (hc1) ?_
  rintro _ _ ⟨rfl, rfl⟩
  (refine CX.nil ?_; refine CQ.thenK ?_; apply hK; (· exact selA); clear hK K)
  refine CH.chain rfl fun K hK => ?_
  refine CX.callA (hcx) ?_
  rintro _ _ ⟨rfl, rfl⟩
  (refine CX.nil ?_; refine CQ.thenK ?_; apply hK; (· exact selA); clear hK K)
  refine CH.tail rfl rfl fun K hK => ?_
  refine CX.callA (hcw) ?_
  rintro _ _ ⟨rfl, rfl⟩
  (refine CX.nil ?_; refine CQ.thenK ?_; apply hK; clear hK K)
  refine hwk ?_
  by_cases hu : u.1 = 0
  rotate_left
  · rw [if_pos hu] at hrun
    rw [hrun]
    refine wk ?_
    ((apply CQ.end1; (· rfl); (· exact .tmp rfl)); (· exact ⟨rfl, rfl⟩); (· exact selA))
  rw [if_neg (by simp [hu])] at hrun
  rw [hrun, hu]
  refine wk ?_
  refine CX.callA (rflush_c r u.2 hww (by omega)) ?_
  rintro _ _ ⟨rfl, rfl⟩
  refine wk ?_
  ((apply CQ.end1; (· rfl); (· exact .tmp rfl)); (· exact ⟨rfl, rfl⟩); (· exact selA))
end Go.Proofs.YtlckhaodecdbbaaGreat
/-! The journal's methods (Append, Replace, Make, Open), in the program. -/
namespace Go.Cx
theorem lay_wf_le {N n : Nat} {D : DS} (h : D.wf (N + n + 3)) (k : n ≤ 2048) : D.wf (N + 2060) := wf_up h (by omega)
theorem newH_WBmay {A B : Blk} (hA : WB A) (hB : WB B) (h : (newH A B).2.2 = 0) : (newH A B).2.1.may := by
  rw [newH_eq] at h ⊢
  split at h
  · cases h
  · rename_i h1
    rw [if_neg h1]
    have g : ∀ (C : Blk), WB C → (getH C).2.2 = 0 → (getH C).2.1.may := fun C hC h => (put_get hC h).2.2.1
    have g0 : ∀ (C : Blk), (getH C).2.2 ≠ 0 → (getH C).1 = 0 := fun C h => by
      rcases get_err C with e | e
      · exact absurd e h
      · exact e.1
    split
    · rename_i h2
      by_cases e : (getH B).2.2 = 0
      · exact g B hB e
      · rw [g0 B e] at h2; omega
    · rename_i h2
      by_cases e : (getH A).2.2 = 0
      · exact g A hA e
      · by_cases e2 : (getH B).2.2 = 0
        · have := (put_get hB e2).1
          rw [g0 A e] at h2; omega
        · exact absurd ⟨e, e2⟩ h1
end Go.Cx
namespace Go.Proofs.YtlckhaodecdbbaaGreat
open Go.Cx
attribute [local irreducible] Go.Cx.CX Go.Cx.CC Go.Cx.CQ Go.Cx.PS Go.Cx.Ctr Go.Cx.CH
set_option maxRecDepth 10000
def DoneP (p d : Nat) (N : Nat) (r : Int × JM × DS) (v : Value) (M : List Assn) : Prop := v = .int .i64 r.1 ∧ M = [bk p 91 (jrc d r.2.1), disk d r.2.2] ∧ r.2.2.wf (N + 2060)
theorem japp_c (p d : Nat) (J : JM) (hJ : J.n < 4611686018427387904) (hm : J.h.may) (D : DS) {N : Nat} (h : D.wf N) (hN : N < 990000) (b : Blk) (hb : b.length ≤ 9223372036854775806) (a : Option Addr) (cap : Nat) (hn : a = none → b.length = 0 ∧ cap = 0) :
    Ctr Tryz.prog 38 [.pointer (some ⟨p, 0, none⟩), .slice a b.length cap] [bk p 91 (jrc d J), disk d D] (fun x => rdx a b.length (cb b) x) (DoneP p d N (appendM J D b)) := by
  unfold DoneP
  have hbank : bankM D ≤ 2048 := by have := h.hi; unfold bankM; omega
  obtain ⟨m1, m2, m3⟩ := hm
  have hmul : J.h.bank * bankM D ≤ 2 * 2048 := Nat.mul_le_mul (by omega) hbank
  have hfst : firstM D J.h.bank ≤ 4098 := by unfold firstM; omega
  refine Ctr.intro Tryz.func38 rfl Tryz.ntmps38 rfl fun x w hp => ?_
  refine wk ?_
  refine CX.callA (jasked_c p d J D b hb a cap hn) ?_ (hpre := by exact rdx_ex (by first | exact pickA | exact updA) hp)
  have hW := asked_WB D b
  have hall := asked_len D b
  unfold appendM
  generalize askedM D b = s at *
  rintro _ _ ⟨a', c', rfl, rfl⟩
  by_cases he : s.2 = 0
  rotate_left
  · rw [if_pos he]
    refine wk ?_
    (apply CQ.end1; (· rfl); (· exact .tmp rfl))
    · exact ⟨rfl, rfl, wf_up h (by omega)⟩
    · exact selA
  rw [if_neg (by simp [he]), he]
  refine wk ?_
  refine CX.callA (jroom_c p d J (by omega) D h) ?_
  rintro _ _ ⟨rfl, rfl⟩
  by_cases h1 : (bankM D : Int) - (J.h.blocks : Int) < (s.1.length : Int)
  · rw [if_pos h1]
    refine wk ?_
    (apply CQ.end1; (· rfl); (· exact .tmp rfl))
    · exact ⟨rfl, rfl, wf_up h (by omega)⟩
    · exact selA
  rw [if_neg h1]
  refine wk ?_
  (apply CX.ps; (· apply PS.loadG (vs := hc J.h); (· rfl); (· rfl); (· exact CellsAt.pick (by first | exact pickA | exact updA) rfl); (· rfl)))
  refine CX.allocZ (hc HdM.z) ?_ (hv := rfl)
  intro q7
  (refine CX.storeB (vs := hc J.h) ?_ ?_ ?_ ?_; (· rfl); (· rfl); (· exact one_all rfl))
  refine wk ?_
  refine CC.draw [(0, 0), (1, 0), (2, 1), (4, 0), (5, 1), (6, 0), (3, 2), (7, 0), (8, 0)] mixed rfl (by kernel_rfl) (by kernel_rfl) [bk q7 36 (hc J.h)] ?_
  refine hwk ?_
  refine CH.chain rfl fun K hK => ?_
  refine CX.callA (jfirst_c p d J D J.h.bank (by omega) h) ?_
  rintro _ _ ⟨rfl, rfl⟩
  (refine CX.nil ?_; refine CQ.thenK ?_; apply hK; (· exact selA); clear hK K)
  refine hwk ?_
  refine wk ?_
  (apply CX.ps; (· apply PS.loadG (vs := hc ⟨J.h.bank, J.h.blocks + s.1.length, J.h.batches + 1⟩); (· rfl); (· rfl); (· exact CellsAt.all (by first | exact pickA | exact updA)); (· rfl)))
  have hlay := jlay_c p d J hJ (firstM D J.h.bank + J.h.blocks) (by omega) s.1 hW (by omega) a' c' ⟨J.h.bank, J.h.blocks + s.1.length, J.h.batches + 1⟩ ⟨by dsimp only; omega, by dsimp only; omega, by dsimp only; omega⟩ D h (by omega)
  refine CX.callA (hlay) ?_ (hpre := by exact rdx_RdS (RdS.own (by first | exact pickA | exact updA) (one_flat _) (by omega)))
  rintro _ _ ⟨rfl, rfl, hwf⟩
  refine wk ?_
  (apply CQ.end1; (· rfl); (· exact .tmp rfl))
  · exact ⟨rfl, rfl, lay_wf_le hwf (by omega)⟩
  · exact selA
theorem jrep_c (p d : Nat) (J : JM) (hJ : J.n < 4611686018427387904) (hm : J.h.may) (D : DS) {N : Nat} (h : D.wf N) (hN : N < 990000) (b : Blk) (hb : b.length ≤ 9223372036854775806) (a : Option Addr) (cap : Nat) (hn : a = none → b.length = 0 ∧ cap = 0) :
    Ctr Tryz.prog 39 [.pointer (some ⟨p, 0, none⟩), .slice a b.length cap] [bk p 91 (jrc d J), disk d D] (fun x => rdx a b.length (cb b) x) (DoneP p d N (replaceM J D b)) := by
  unfold DoneP
  have hbank : bankM D ≤ 2048 := by have := h.hi; unfold bankM; omega
  obtain ⟨m1, m2, m3⟩ := hm
  have hmul : (1 - J.h.bank) * bankM D ≤ 2 * 2048 := Nat.mul_le_mul (by omega) hbank
  have hfst : firstM D (1 - J.h.bank) ≤ 4098 := by unfold firstM; omega
  refine Ctr.intro Tryz.func39 rfl Tryz.ntmps39 rfl fun x w hp => ?_
  refine wk ?_
  refine CX.callA (jasked_c p d J D b hb a cap hn) ?_ (hpre := by exact rdx_ex (by first | exact pickA | exact updA) hp)
  have hW := asked_WB D b
  have hall := asked_len D b
  unfold replaceM
  generalize askedM D b = s at *
  rintro _ _ ⟨a', c', rfl, rfl⟩
  by_cases he : s.2 = 0
  rotate_left
  · rw [if_pos he]
    refine wk ?_
    (apply CQ.end1; (· rfl); (· exact .tmp rfl))
    · exact ⟨rfl, rfl, wf_up h (by omega)⟩
    · exact selA
  rw [if_neg (by simp [he]), he]
  refine wk ?_
  refine CX.callA (jbank_c p d J D h) ?_
  rintro _ _ ⟨rfl, rfl⟩
  by_cases h1 : bankM D < s.1.length
  · rw [if_pos h1]
    refine wk ?_
    (apply CQ.end1; (· rfl); (· exact .tmp rfl))
    · exact ⟨rfl, rfl, wf_up h (by omega)⟩
    · exact selA
  rw [if_neg h1]
  refine wk ?_
  rw [show (1 : Int) - (J.h.bank : Int) = ((1 - J.h.bank : Nat) : Int) by omega]
  refine wk ?_
  refine CX.callA (jfirst_c p d J D (1 - J.h.bank) (by omega) h) ?_
  rintro _ _ ⟨rfl, rfl⟩
  refine wk ?_
  refine CX.ps (PS.build (vs := [(0, .int .u8 ((1 - J.h.bank : Nat) : Int)), (1, .int .u32 (s.1.length : Int)), (2, .int .u32 1)]) (out := hc ⟨1 - J.h.bank, s.1.length, 1⟩) rfl rfl rfl) ?_
  have hlay := jlay_c p d J hJ (firstM D (1 - J.h.bank)) (by omega) s.1 hW (by omega) a' c' ⟨1 - J.h.bank, s.1.length, 1⟩ ⟨by dsimp only; omega, by dsimp only; omega, by dsimp only; omega⟩ D h (by omega)
  refine CX.callA (hlay) ?_ (hpre := by exact rdx_RdS (RdS.own (by first | exact pickA | exact updA) (one_flat _) (by omega)))
  rintro _ _ ⟨rfl, rfl, hwf⟩
  refine wk ?_
  (apply CQ.end1; (· rfl); (· exact .tmp rfl))
  · exact ⟨rfl, rfl, lay_wf_le hwf (by omega)⟩
  · exact selA
def MadeP (d N : Nat) (D : DS) (v : Value) (M : List Assn) : Prop :=
  (D.dark = true → v = .tuple #[.pointer none, .int .i64 9] ∧ M = [disk d D]) ∧
  (D.dark = false → (makeM D).2.2.wf (N + 2060) ∧ ((makeM D).1 ≠ 0 → v = .tuple #[.pointer none, .int .i64 (makeM D).1] ∧ M = [disk d (makeM D).2.2]) ∧
    ((makeM D).1 = 0 → ∃ p, v = .tuple #[.pointer (some ⟨p, 0, none⟩), .int .i64 0] ∧ M = [bk p 91 (jrc d (makeM D).2.1), disk d (makeM D).2.2]))
theorem jmake_c (d : Nat) (D : DS) {N : Nat} (h : D.wf N) (hN : N < 990000) : Ctr Tryz.prog 37 [.pointer (some ⟨d, 0, none⟩)] [disk d D] (fun _ => True) (MadeP d N D) := by
  have hlo := h.lo
  unfold MadeP
  refine Ctr.intro Tryz.func37 rfl Tryz.ntmps37 rfl fun x w hp => ?_
  refine wk ?_
  refine CX.callA (blocks_c d D) ?_
  rintro _ _ ⟨rfl, rfl⟩
  refine wk ?_
  refine CX.callA (dark_c d D) ?_
  cases hd : D.dark with
  | true =>
    rintro _ _ ⟨rfl, rfl⟩
    refine wk ?_
    (apply CQ.end2; (· rfl); (· exact .tmp rfl); (· exact .tmp rfl))
    · exact ⟨fun _ => ⟨rfl, rfl⟩, (fun h => by cases h)⟩
    · exact selA
  | false =>
    rintro _ _ ⟨rfl, rfl⟩
    refine wk ?_
    refine CX.ps (PS.build (vs := [(0, .pointer (some ⟨d, 0, none⟩))]) (out := jrc d ⟨0, HdM.z⟩) rfl rfl rfl) ?_
    (refine CX.boxA (vs := jrc d ⟨0, HdM.z⟩) ?_; intro p)
    refine wk ?_
    refine CX.makeSl (l := 2) rfl rfl rfl rfl (by decide) fun q => ?_
    have e0 : (madeCells (Value.agg (List.replicate 128 (.int .u8 0) : List Value).toArray).cells (2 * 128)).toList = flat [zblk, zblk] := by
      have h1 := made_rep (.int .u8 0) 128 (2 * 128) (by omega)
      have h2 := flat_zs 2
      simp only [Value.cells]
      rw [h1, ← h2]; rfl
    rw [e0]
    (apply CX.ps; (· apply PS.build (vs := []) (out := hc HdM.z); (· rfl); (· rfl); (· rfl)))
    have hlay := jlay_c p d ⟨0, HdM.z⟩ (by decide) 0 (by decide) [zblk, zblk] (fun b hb => by simp at hb; subst hb; exact WB_z) (by decide) (some ⟨q, 0, none⟩) 2 HdM.z ⟨by decide, by decide, by decide⟩ D h (by show N + 2 + 3 < 999990; omega)
    refine CX.callA (hlay) ?_ (hpre := by exact rdx_RdS (RdS.own (by first | exact pickA | exact updA) (one_flat _) (by decide)))
    rintro _ _ ⟨rfl, rfl, hwf⟩
    have hm : makeM D = layM ⟨0, HdM.z⟩ 0 [zblk, zblk] HdM.z D := rfl
    rw [hm]
    generalize layM ⟨0, HdM.z⟩ 0 [zblk, zblk] HdM.z D = r at *
    by_cases he : r.1 = 0
    · rw [he]
      refine wk ?_
      (apply CQ.end2; (· rfl); (· exact .tmp rfl); (· exact .tmp rfl))
      · exact ⟨(fun h => by cases h), fun _ => ⟨lay_wf_le hwf (by decide), fun h => absurd rfl h, fun _ => ⟨p, rfl, rfl⟩⟩⟩
      · exact selA
    · refine wk ?_
      (apply CQ.end2; (· rfl); (· exact .tmp rfl); (· exact .tmp rfl))
      · exact ⟨(fun h => by cases h), fun _ => ⟨lay_wf_le hwf (by decide), fun _ => ⟨rfl, rfl⟩, fun h => absurd h he⟩⟩
      · exact selA
theorem jmakeN_c (z : Option Nat) : Ctr Tryz.prog 37 [nptr z] (nres z) (fun _ => True) (fun v M => v = .tuple #[.pointer none, .int .i64 1] ∧ M = nres z) := by
  cases z with
  | none =>
    simp only [nres, nptr, Option.map]
    refine Ctr.intro Tryz.func37 rfl Tryz.ntmps37 rfl fun x w hp => ?_
    refine wk ?_
    (have cc := blocksN_c none; simp only [nres, nptr, Option.map] at cc; refine CX.callA cc ?_; clear cc; rintro _ _ ⟨rfl, rfl⟩)
    refine wk ?_
    ((apply CQ.end2; (· rfl); (· exact .tmp rfl); (· exact .tmp rfl)); (· exact ⟨rfl, rfl⟩); (· exact selA))
  | some p =>
    simp only [nres, nptr, Option.map]
    refine Ctr.intro Tryz.func37 rfl Tryz.ntmps37 rfl fun x w hp => ?_
    refine wk ?_
    (have cc := blocksN_c (some p); simp only [nres, nptr, Option.map] at cc; refine CX.callA cc ?_; clear cc; rintro _ _ ⟨rfl, rfl⟩)
    refine wk ?_
    ((apply CQ.end2; (· rfl); (· exact .tmp rfl); (· exact .tmp rfl)); (· exact ⟨rfl, rfl⟩); (· exact selA))
theorem jopenN_c (z : Option Nat) : Ctr Tryz.prog 27 [nptr z] (nres z) (fun _ => True) (fun v M => v = .tuple #[.pointer none, .int .i64 1] ∧ M = nres z) := by
  cases z with
  | none =>
    simp only [nres, nptr, Option.map]
    refine Ctr.intro Tryz.func27 rfl Tryz.ntmps27 rfl fun x w hp => ?_
    refine wk ?_
    (have cc := blocksN_c none; simp only [nres, nptr, Option.map] at cc; refine CX.callA cc ?_; clear cc; rintro _ _ ⟨rfl, rfl⟩)
    refine wk ?_
    ((apply CQ.end2; (· rfl); (· exact .tmp rfl); (· exact .tmp rfl)); (· exact ⟨rfl, rfl⟩); (· exact selA))
  | some p =>
    simp only [nres, nptr, Option.map]
    refine Ctr.intro Tryz.func27 rfl Tryz.ntmps27 rfl fun x w hp => ?_
    refine wk ?_
    (have cc := blocksN_c (some p); simp only [nres, nptr, Option.map] at cc; refine CX.callA cc ?_; clear cc; rintro _ _ ⟨rfl, rfl⟩)
    refine wk ?_
    ((apply CQ.end2; (· rfl); (· exact .tmp rfl); (· exact .tmp rfl)); (· exact ⟨rfl, rfl⟩); (· exact selA))
def OpenP (d : Nat) (D : DS) (v : Value) (M : List Assn) : Prop :=
  ((openM D).1 ≠ 0 → v = .tuple #[.pointer none, .int .i64 (openM D).1] ∧ M = [disk d D]) ∧
  ((openM D).1 = 0 → ∃ p, v = .tuple #[.pointer (some ⟨p, 0, none⟩), .int .i64 0] ∧ M = [bk p 91 (jrc d (openM D).2), disk d D])
theorem jopen_c (d : Nat) (D : DS) {N : Nat} (h : D.wf N) (hN : N < 990000) : Ctr Tryz.prog 27 [.pointer (some ⟨d, 0, none⟩)] [disk d D] (fun _ => True) (OpenP d D) := by
  have hlo := h.lo
  have hw1 : WB (bothM D).1 := by unfold bothM; split <;> exact read_WB h 0
  have hw2 : WB (bothM D).2.1 := by
    unfold bothM; split
    · exact WB_z
    · exact read_WB h 1
  unfold OpenP
  refine Ctr.intro Tryz.func27 rfl Tryz.ntmps27 rfl fun x w hp => ?_
  refine wk ?_
  refine CX.callA (blocks_c d D) ?_
  rintro _ _ ⟨rfl, rfl⟩
  refine wk ?_
  refine CX.ps (PS.build (vs := [(0, .pointer (some ⟨d, 0, none⟩))]) (out := jrc d ⟨0, HdM.z⟩) rfl rfl rfl) ?_
  (refine CX.boxA (vs := jrc d ⟨0, HdM.z⟩) ?_; intro p)
  refine wk ?_
  refine CX.callA (jboth_c p d ⟨0, HdM.z⟩ D h (by omega)) ?_
  unfold openM
  generalize bothM D = o at *
  rintro _ _ ⟨rfl, rfl⟩
  refine wk ?_
  refine CX.allocZ (cb zblk) ?_
  intro q5
  refine CX.allocZ (cb zblk) ?_
  intro q6
  (apply CX.storeAll; (· rfl); (· rfl); (· rfl); (· first | exact pickA | exact updA); (· exact hw1.len); (· exact WB_z.len); (· exact one_cb _))
  (apply CX.storeAll; (· rfl); (· rfl); (· rfl); (· first | exact pickA | exact updA); (· exact hw2.len); (· exact WB_z.len); (· exact one_cb _))
  by_cases he : o.2.2 = 0
  rotate_left
  · rw [if_pos he]
    refine wk ?_
    (apply CQ.end2; (· rfl); (· exact .tmp rfl); (· exact .tmp rfl))
    · exact ⟨fun _ => ⟨rfl, rfl⟩, fun h => absurd h he⟩
    · exact selA
  rw [if_neg (by simp [he]), he]
  refine wk ?_
  (apply CX.ps; (· apply PS.loadG (vs := cb o.1); (· rfl); (· rfl); (· exact CellsAt.all (by first | exact pickA | exact updA)); (· exact hw1.len)))
  (apply CX.ps; (· apply PS.loadG (vs := cb o.2.1); (· rfl); (· rfl); (· exact CellsAt.all (by first | exact pickA | exact updA)); (· exact hw2.len)))
  refine CX.callA (hnewest_c o.1 o.2.1 hw1 hw2) ?_
  have hmay := newH_WBmay hw1 hw2
  generalize newH o.1 o.2.1 = u at *
  rintro _ _ ⟨rfl, rfl⟩
  refine wk ?_
  have e5 : setL ((jrc d ⟨0, HdM.z⟩).set (0 + 1) (.int .u64 (u.1 : Int))) (0 + 2) (Value.agg (hc u.2.1).toArray).cells.toList = jrc d ⟨u.1, u.2.1⟩ := by
    simp [jrc, setL, hc, Value.cells]
  refine CX.storeC (v := .agg (hc u.2.1).toArray) (cs := (jrc d ⟨0, HdM.z⟩).set (0 + 1) (.int .u64 (u.1 : Int))) (bt := 91) rfl rfl rfl rfl (one_all rfl) (by first | exact pickA | exact updA) (by simp [jrc, hc, Value.cells]) ?_
  rw [e5]
  by_cases h1 : u.2.2 = 0
  rotate_left
  · rw [if_pos (.inl h1)]
    refine wk ?_
    (apply CQ.end2; (· rfl); (· exact .tmp rfl); (· exact .tmp rfl))
    · exact ⟨fun _ => ⟨rfl, rfl⟩, (fun h => by cases h)⟩
    · exact selA
  by_cases h2 : 2305843009213693952 < u.1
  · rw [if_pos (.inr h2), h1]
    refine wk ?_
    dsimp only
    refine wk ?_
    (apply CQ.end2; (· rfl); (· exact .tmp rfl); (· exact .tmp rfl))
    · exact ⟨fun _ => ⟨rfl, rfl⟩, (fun h => by cases h)⟩
    · exact selA
  rw [if_neg (by rintro (h | h) <;> contradiction), h1]
  obtain ⟨m1, m2, m3⟩ := hmay h1
  have hrd := jread_c p d ⟨u.1, u.2.1⟩ (by dsimp only; omega) (by dsimp only; omega) (by dsimp only; omega) D h (by omega)
  refine wk ?_
  dsimp only
  refine wk ?_
  refine CX.callA (hrd) ?_
  unfold ReadP
  generalize readM ⟨u.1, u.2.1⟩ D = r at *
  rintro _ _ ⟨a8, c8, l8, hl8, rfl, rfl, hn8, hc8⟩
  by_cases h3 : r.2 = 0
  · rw [h3]
    refine wk ?_
    (apply CQ.end2; (· rfl); (· exact .tmp rfl); (· exact .tmp rfl))
    · exact ⟨fun h => absurd rfl h, fun _ => ⟨p, rfl, rfl⟩⟩
    · exact selA
  · refine wk ?_
    (apply CQ.end2; (· rfl); (· exact .tmp rfl); (· exact .tmp rfl))
    · exact ⟨fun _ => ⟨rfl, rfl⟩, fun h => absurd h h3⟩
    · exact selA
end Go.Proofs.YtlckhaodecdbbaaGreat
/-! The journal in plain Lean: Append, Replace, Make. No program in sight. -/
namespace Go.Cx
theorem asked_ok {D : DS} {b : Blk} (c : Calm D) (hb : b.length ≤ 1048576) : askedM D b = (cutB b, 0) := by
  unfold askedM; rw [if_neg (by omega), if_neg (by simp [c.lit])]
theorem asked_long {D : DS} {b : Blk} (hb : 1048576 < b.length) : askedM D b = ([], 3) := by
  unfold askedM; rw [if_pos hb]
theorem first_of {S : List Blk} {b b' i j : Nat} (hb : b < 2) (hb' : b' < 2) (hi : i < bankS S) (hj : j < bankS S) (e : firstS S b + i = firstS S b' + j) : b = b' ∧ i = j := by
  unfold firstS at e
  have h1 : b = 0 ∨ b = 1 := by omega
  have h2 : b' = 0 ∨ b' = 1 := by omega
  rcases h1 with rfl | rfl <;> rcases h2 with rfl | rfl <;> omega
theorem append_out {D : DS} {J : JM} {bs : List Blk} {b : Blk} (j : JSt D.sure J bs) (c : Calm D) (n2 : J.n ≤ 59) (hb : b.length ≤ 1048576) :
    (bankS D.sure < J.h.blocks + (cutB b).length → appendM J D b = (10, J, D)) ∧
    (J.h.blocks + (cutB b).length ≤ bankS D.sure → appendM J D b = layM J (firstM D J.h.bank + J.h.blocks) (cutB b) ⟨J.h.bank, J.h.blocks + (cutB b).length, J.h.batches + 1⟩ D ∧
      LayOk D.sure J (firstM D J.h.bank + J.h.blocks) (cutB b) ⟨J.h.bank, J.h.blocks + (cutB b).length, J.h.batches + 1⟩ (bs ++ [b])) := by
  have ha := asked_ok c hb
  have hp := cut_pos b
  refine ⟨fun h => ?_, fun h => ⟨?_, ?_⟩⟩
  · unfold appendM; rw [ha, bank_eq]; simp only [ne_eq, not_true_eq_false, if_false]; rw [if_pos (by omega)]
  · unfold appendM; rw [ha, bank_eq]; simp only [ne_eq, not_true_eq_false, if_false]; rw [if_neg (by omega)]
  · obtain ⟨m1, m2, m3⟩ := j.may
    have hlast := first_le j.lo m1 (i := J.h.blocks + (cutB b).length - 1) (by omega)
    have hi := j.hi
    have hbk : bankS D.sure ≤ 2047 := by unfold bankS; omega
    rw [first_eq]
    have hcl := j.blocks
    refine ⟨chop_WB _, by omega, fun k h1 h2 => ?_, n2, ⟨m1, by dsimp only; omega, by dsimp only; omega⟩, by rw [Cut_snoc, List.length_append, ← hcl], by simp [j.batches], h, fun x hx => ?_, fun i hi => ?_⟩
    · rintro (h3 | ⟨h3, h4⟩)
      · have : 2 ≤ firstS D.sure J.h.bank := by unfold firstS; omega
        omega
      · omega
    · simp only [List.mem_append, List.mem_singleton] at hx
      rcases hx with hx | rfl
      · exact j.sz x hx
      · exact hb
    · dsimp only at hi ⊢
      rw [Cut_snoc]
      by_cases h1 : i < J.h.blocks
      · rw [if_neg (by omega), j.cnt i h1]
        simp only [List.getD_eq_getElem?_getD]
        rw [List.getElem?_append_left (by omega)]
      · rw [if_pos (by omega), show firstS D.sure J.h.bank + i - (firstS D.sure J.h.bank + J.h.blocks) = i - (Cut bs).length by omega]
        simp only [List.getD_eq_getElem?_getD]
        rw [List.getElem?_append_right (by omega)]
theorem replace_out {D : DS} {J : JM} {bs : List Blk} {b : Blk} (j : JSt D.sure J bs) (c : Calm D) (n2 : J.n ≤ 59) (hb : b.length ≤ 1048576) :
    (bankS D.sure < (cutB b).length → replaceM J D b = (10, J, D)) ∧
    ((cutB b).length ≤ bankS D.sure → replaceM J D b = layM J (firstM D (1 - J.h.bank)) (cutB b) ⟨1 - J.h.bank, (cutB b).length, 1⟩ D ∧
      LayOk D.sure J (firstM D (1 - J.h.bank)) (cutB b) ⟨1 - J.h.bank, (cutB b).length, 1⟩ [b]) := by
  have ha := asked_ok c hb
  have hp := cut_pos b
  refine ⟨fun h => ?_, fun h => ⟨?_, ?_⟩⟩
  · unfold replaceM; rw [ha, bank_eq]; simp only [ne_eq, not_true_eq_false, if_false]; rw [if_pos (by omega)]
  · unfold replaceM; rw [ha, bank_eq]; simp only [ne_eq, not_true_eq_false, if_false]; rw [if_neg (by omega)]
  · obtain ⟨m1, m2, m3⟩ := j.may
    have hlast := first_le j.lo (show 1 - J.h.bank < 2 by omega) (i := (cutB b).length - 1) (by omega)
    have hi := j.hi
    have hr := j.room
    have hbk : bankS D.sure ≤ 2047 := by unfold bankS; omega
    rw [first_eq]
    refine ⟨chop_WB _, by omega, fun k h1 h2 => ?_, n2, ⟨by dsimp only; omega, by dsimp only; omega, by dsimp only; omega⟩, by rw [Cut_one], rfl, h, fun x hx => by rw [List.mem_singleton.1 hx]; exact hb, fun i hi => ?_⟩
    · rintro (h3 | ⟨h3, h4⟩)
      · have : 2 ≤ firstS D.sure (1 - J.h.bank) := by unfold firstS; omega
        omega
      · have := first_of (S := D.sure) (b := 1 - J.h.bank) (b' := J.h.bank) (i := k - firstS D.sure (1 - J.h.bank)) (j := k - firstS D.sure J.h.bank) (by omega) m1 (by omega) (by omega) (by omega)
        omega
    · dsimp only at hi ⊢
      rw [if_pos (by omega), Nat.add_sub_cancel_left, Cut_one]
/-- Append where the power is not cut. -/
theorem append_go {D : DS} {J : JM} {bs : List Blk} {b : Blk} (j : JSt D.sure J bs) (c : Calm D) (hl : D.left = 0) (n2 : J.n ≤ 59) (hb : b.length ≤ 1048576) (hr : J.h.blocks + (cutB b).length ≤ bankS D.sure) :
    ∃ D', appendM J D b = (0, ⟨J.n + 1, ⟨J.h.bank, J.h.blocks + (cutB b).length, J.h.batches + 1⟩⟩, D') ∧ Calm D' ∧ D'.left = 0 ∧ D'.sure.length = D.sure.length ∧ JSt D'.sure ⟨J.n + 1, ⟨J.h.bank, J.h.blocks + (cutB b).length, J.h.batches + 1⟩⟩ (bs ++ [b]) := by
  obtain ⟨e, o⟩ := (append_out j c n2 hb).2 hr
  rcases lay_out j c o with ⟨h1, h2, h3, h4, h5, h6⟩ | ⟨-, h2, -⟩
  · refine ⟨_, ?_, h3, h6 hl, h4, h5⟩
    rw [e, ← h1, ← h2]
  · exact absurd hl h2
theorem replace_go {D : DS} {J : JM} {bs : List Blk} {b : Blk} (j : JSt D.sure J bs) (c : Calm D) (hl : D.left = 0) (n2 : J.n ≤ 59) (hb : b.length ≤ 1048576) (hr : (cutB b).length ≤ bankS D.sure) :
    ∃ D', replaceM J D b = (0, ⟨J.n + 1, ⟨1 - J.h.bank, (cutB b).length, 1⟩⟩, D') ∧ Calm D' ∧ D'.left = 0 ∧ D'.sure.length = D.sure.length ∧ JSt D'.sure ⟨J.n + 1, ⟨1 - J.h.bank, (cutB b).length, 1⟩⟩ [b] := by
  obtain ⟨e, o⟩ := (replace_out j c n2 hb).2 hr
  rcases lay_out j c o with ⟨h1, h2, h3, h4, h5, h6⟩ | ⟨-, h2, -⟩
  · refine ⟨_, ?_, h3, h6 hl, h4, h5⟩
    rw [e, ← h1, ← h2]
  · exact absurd hl h2
/-- A new journal on a new disk. -/
theorem make_new {n : Nat} (h1 : 64 ≤ n) (h2 : n ≤ 4096) : (makeM (DS.new n)).1 = 0 ∧ (makeM (DS.new n)).2.1 = ⟨1, HdM.z⟩ ∧ Calm (makeM (DS.new n)).2.2 ∧ (makeM (DS.new n)).2.2.left = 0 ∧ (makeM (DS.new n)).2.2.sure.length = n ∧ JSt (makeM (DS.new n)).2.2.sure ⟨1, HdM.z⟩ [] := by
  obtain ⟨S, hS⟩ : ∃ S, S = (DS.new n).sure := ⟨_, rfl⟩
  have lS : S.length = n := by rw [hS]; simp [DS.new]
  have wS : ∀ b ∈ S, WB b := by rw [hS]; intro b hb; rw [List.eq_of_mem_replicate hb]; exact WB_z
  have gS : ∀ k, k < n → S.getD k [] = zblk := fun k hk => by rw [hS]; simp [DS.new, hk]
  have hrun := run_writes (S := S) (at_ := 0) (l := [zblk, zblk]) (by simp; omega) (DS.new n) [DS.flush, markM ⟨0, HdM.z⟩ HdM.z, DS.flush] 2 0 (DS.new n) rfl ⟨rfl, hS.symm, rfl, fun h => h⟩
  have hls : layS ⟨0, HdM.z⟩ 0 [zblk, zblk] HdM.z = ((List.range' 0 2).map fun (j : Nat) (D : DS) => D.write (((0 : Nat) : Int) + (j : Int)) ([zblk, zblk].getD j [])) ++ [DS.flush, markM ⟨0, HdM.z⟩ HdM.z, DS.flush] := by
    unfold layS writesM; rw [List.range_eq_range']; rfl
  rw [← hls] at hrun
  rcases hrun with ⟨D1, w1, e1⟩ | ⟨D1, k, hk, hl0, -⟩
  rotate_left
  · exact absurd rfl hl0
  have l1 := w1.left rfl
  have st : ∀ D : DS, D.left = 0 → D.step = (0, { D with left := 0, steps := D.steps + 1 }) := fun D h => by unfold DS.step; rw [if_neg (by omega), h]; rfl
  rw [runM] at e1
  have lit1 : D1.lit 0 = 0 := by
    unfold DS.lit DS.there errOf
    rw [w1.lit, if_neg (by simp), w1.sure, if_pos (by omega)]
  have e : D1.flush = (0, { D1 with sure := settleL S [] 128 0 ((List.range 2).map fun j => (0 + j, [zblk, zblk].getD j [])), loose := [], left := 0, steps := D1.steps + 1 }) := by
    unfold DS.flush; rw [lit1, st D1 l1]; simp [DS.settle, w1.sure, w1.loose]
  have g2 := fun k => settle_puts S 0 [zblk, zblk] wS (fun b hb => by simp at hb; subst hb; exact WB_z) (by simp; omega) k 2 (Nat.le_refl _)
  have len2 := length_settleL [] 128 ((List.range 2).map fun j => (0 + j, [zblk, zblk].getD j [])) S 0
  have wb2 := settleL_WB [] 128 ((List.range 2).map fun j => (0 + j, [zblk, zblk].getD j [])) S 0 wS (fun p hp => by
    simp only [List.mem_map, List.mem_range] at hp
    obtain ⟨i, hi, rfl⟩ := hp
    refine ⟨by dsimp only; omega, ?_⟩
    match i, hi with
    | 0, _ => exact WB_z
    | 1, _ => exact WB_z)
  rw [e] at e1
  simp only [ne_eq, not_true_eq_false, if_false] at e1
  generalize settleL S [] 128 0 ((List.range 2).map fun j => (0 + j, [zblk, zblk].getD j [])) = S2 at *
  have g2' : ∀ k, k < n → S2.getD k [] = zblk := fun k hk => by
    rw [g2 k]
    split
    · rename_i h; have : k = 0 ∨ k = 1 := by omega
      rcases this with rfl | rfl <;> rfl
    · exact gS k hk
  obtain ⟨D2, hD2⟩ : ∃ D2 : DS, D2 = { D1 with sure := S2, loose := [], left := 0, steps := D1.steps + 1 } := ⟨_, rfl⟩
  rw [← hD2] at e1
  have c2 : Calm D2 := ⟨by rw [hD2]; exact w1.lit, by rw [hD2]⟩
  have s2 : D2.sure = S2 := by rw [hD2]
  have l2 : D2.left = 0 := by rw [hD2]
  rw [runM] at e1
  have hb2 := c2.both (by rw [s2]; omega)
  rw [s2, g2' 0 (by omega), g2' 1 (by omega)] at hb2
  have hp := putH_ok (n := 0 + 1) (h := HdM.z) (by omega) (by omega) (by decide)
  have hnx : nextM zblk zblk = 0 := by decide +kernel
  have em : markM ⟨0, HdM.z⟩ HdM.z D2 = D2.write 0 (sealB 1 HdM.z.bytes) := by
    unfold markM; rw [hb2]; simp only [ne_eq, not_true_eq_false, if_false]
    rw [hp, hnx]; simp
  have lit2 : D2.lit 0 = 0 := c2.litAt (k := 0) (by rw [s2]; omega)
  have e3 : D2.write 0 (sealB 1 HdM.z.bytes) = (0, { D2 with loose := [(0, sealB 1 HdM.z.bytes)], left := 0, steps := D2.steps + 1 }) := by
    unfold DS.write; rw [lit2, st D2 l2]; simp [c2.loose]
  rw [em, e3] at e1
  simp only [ne_eq, not_true_eq_false, if_false] at e1
  rw [runM] at e1
  have e4 : ({ D2 with loose := [(0, sealB 1 HdM.z.bytes)], left := 0, steps := D2.steps + 1 } : DS).flush = (0, { D2 with sure := settleL S2 [] 128 0 [(0, sealB 1 HdM.z.bytes)], loose := [], left := 0, steps := D2.steps + 1 + 1 }) := by
    unfold DS.flush
    rw [show ({ D2 with loose := [(0, sealB 1 HdM.z.bytes)], left := 0, steps := D2.steps + 1 } : DS).lit 0 = 0 from lit2, st _ rfl]
    simp [DS.settle, s2]
  rw [e4] at e1
  simp only [ne_eq, not_true_eq_false, if_false, runM] at e1
  have el : makeM (DS.new n) = (0, ⟨1, HdM.z⟩, { D2 with sure := settleL S2 [] 128 0 [(0, sealB 1 HdM.z.bytes)], loose := [], left := 0, steps := D2.steps + 1 + 1 }) := by
    unfold makeM layM; rw [e1]; simp
  have hw1 : WB (sealB 1 HdM.z.bytes) := sealB_WB (by decide)
  have hset : settleL S2 [] 128 0 [(0, sealB 1 HdM.z.bytes)] = S2.set 0 (sealB 1 HdM.z.bytes) := by
    simp only [settleL, pickAt, List.getElem?_nil]
    rw [torn128 (by rw [g2' 0 (by omega)]; exact WB_z) hw1]
  rw [el, hset]
  refine ⟨rfl, rfl, ⟨c2.lit, rfl⟩, rfl, by dsimp only; rw [List.length_set]; omega, ?_⟩
  dsimp only
  refine ⟨by rw [List.length_set]; omega, by rw [List.length_set]; omega, fun b hb => ?_, by decide, by decide, by decide, rfl, rfl, Nat.zero_le _, (fun b hb => by cases hb), fun i hi => absurd hi (Nat.not_lt_zero _), 0, by omega, ?_, ?_⟩
  · rcases List.mem_or_eq_of_mem_set hb with hb | rfl
    · exact wb2 b hb
    · exact hw1
  · have := putH_ok (n := 1) (h := HdM.z) (by omega) (by omega) (by decide)
    rw [this]
    simp [List.getD, List.getElem?_set_self (show 0 < S2.length by omega)]
  · have : (S2.set 0 (sealB 1 HdM.z.bytes)).getD 1 [] = zblk := by
      have := g2' 1 (by omega)
      simp only [List.getD_eq_getElem?_getD] at this ⊢
      rw [List.getElem?_set_ne (by omega)]; exact this
    rw [Nat.sub_zero, this]
    exact slot_z (Nat.le_refl _)
end Go.Cx
/-! The document's journal (ref 07): its methods, in the program. -/
namespace Go.Cx
theorem layM_run (J : JM) (at_ : Nat) (l : List Blk) (h : HdM) (D : DS) : (layM J at_ l h D).1 = (runM (layS J at_ l h) D).1 ∧ (layM J at_ l h D).2.2 = (runM (layS J at_ l h) D).2 := by
  unfold layM
  by_cases e : (runM (layS J at_ l h) D).1 = 0
  · rw [if_neg (by simp [e])]; exact ⟨e.symm, rfl⟩
  · rw [if_pos e]; exact ⟨rfl, rfl⟩
/-- A head of two blocks may be. -/
theorem newH_may {A B : Blk} (hA : WB A) (hB : WB B) : (newH A B).2.1.may := by
  by_cases h : (newH A B).2.2 = 0
  · exact newH_WBmay hA hB h
  · rw [newH_eq] at h ⊢
    split
    · show HdM.z.may; decide
    · rename_i h1
      rw [if_neg h1] at h
      split at h <;> simp at h
theorem parse_err : ∀ (k : Nat) (l : List Blk) (all : Blk), (parseM k l all).2 = 0 ∨ (parseM k l all).2 = 5
  | 0, l, all => by unfold parseM; split <;> simp
  | k + 1, l, all => by
    unfold parseM
    split
    · simp
    · split
      · simp
      · exact parse_err k _ _
theorem rdAll_ok {D : DS} (hd : D.dark = false) {b : Nat} (hb : b < 2) (hl : 64 ≤ D.sure.length) : ∀ (n i : Nat) (acc : Blk), i + n ≤ bankM D → (rdAll D (firstM D b) i n acc).2 = 0
  | 0, _, _, _ => rfl
  | n + 1, i, acc, h => by
    rw [rdAll_go (lit_at hd hb hl (by omega))]
    exact rdAll_ok hd hb hl n (i + 1) _ (by omega)
theorem read_err {D : DS} (hd : D.dark = false) (hl : 64 ≤ D.sure.length) {J : JM} (hm : J.h.may) : (readM J D).2 = 0 ∨ (readM J D).2 = 5 := by
  unfold readM
  split
  · exact .inr rfl
  · rename_i h
    rw [if_neg (by simp [rdAll_ok hd hm.1 hl J.h.blocks 0 [] (by omega)])]
    exact parse_err _ _ _
theorem lit_both {D : DS} (hd : D.dark = false) (hl : 64 ≤ D.sure.length) : bothM D = ((D.read 0).1, (D.read 1).1, 0) := by
  have h0 : D.read 0 = (D.get 0, 0) := lit_read hd (k := 0) (by omega)
  have h1 : D.read 1 = (D.get 1, 0) := lit_read hd (k := 1) (by omega)
  unfold bothM
  rw [h0, h1]; simp
theorem new_zz : newH zblk zblk = (0, HdM.z, 7) := by decide +kernel
/-- What is laid behind the two heads leaves them. -/
theorem new_kept {D : DS} {at_ : Nat} {l : List Blk} (c : Cx.Calm D) (hS : ∀ b ∈ D.sure, WB b) (hl : ∀ b ∈ l, WB b) (h64 : 64 ≤ D.sure.length) (h2 : 2 ≤ at_) (hi : at_ + l.length ≤ D.sure.length) :
    newH ((settleL D.sure [] 128 0 ((List.range l.length).map fun i => (at_ + i, l.getD i []))).getD 0 []) ((settleL D.sure [] 128 0 ((List.range l.length).map fun i => (at_ + i, l.getD i []))).getD 1 []) = newH (D.read 0).1 (D.read 1).1 := by
  have r0 : D.read 0 = (D.sure.getD 0 [], 0) := c.read (k := 0) (by omega)
  have r1 : D.read 1 = (D.sure.getD 1 [], 0) := c.read (k := 1) (by omega)
  rw [settle_puts D.sure at_ l hS hl hi 0 l.length (Nat.le_refl _), settle_puts D.sure at_ l hS hl hi 1 l.length (Nat.le_refl _), if_neg (by omega), if_neg (by omega), r0, r1]
end Go.Cx
namespace Go.Proofs.YtlckhaodecdbbaaGreat
open Go.Cx
attribute [local irreducible] Go.Cx.CX Go.Cx.CC Go.Cx.CQ Go.Cx.PS Go.Cx.Ctr Go.Cx.CH
set_option maxRecDepth 10000
theorem r7room_c (q r : Nat) (D : DS) {N : Nat} (h : D.wf N) (hN : N < 1000000) : Ctr Tryz.prog 33 [.pointer (some ⟨q, 0, none⟩)] [rjA q r, rdisk r D] (fun _ => True) (fun v M => v = .int .i64 ((bankM D : Int) - ((newR D).2.1.blocks : Int)) ∧ M = [rjA q r, rdisk r D]) := by
  have hbank : bankM D ≤ 2048 := by have := h.hi; unfold bankM; omega
  have hmay : (newR D).2.1.may := newH_may (read_WB h 0) (read_WB h 1)
  have hn := r7newest_c q r D h hN
  generalize newR D = u at *
  obtain ⟨m1, m2, m3⟩ := hmay
  refine Ctr.intro Tryz.func33 rfl Tryz.ntmps33 rfl fun x w hp => ?_
  refine wk ?_
  refine CX.callA (hn) ?_
  rintro _ _ ⟨rfl, rfl⟩
  refine wk ?_
  refine CX.allocZ (hc HdM.z) ?_ (hv := rfl)
  intro q4
  refine wk ?_
  (refine CX.storeB (vs := hc u.2.1) ?_ ?_ ?_ ?_; (· rfl); (· rfl); (· exact one_all rfl))
  refine wk ?_
  refine CC.draw [(0, 0), (2, 0), (3, 1), (4, 0), (1, 2), (5, 0), (6, 0)] mixed rfl (by kernel_rfl) (by kernel_rfl) [bk q4 36 (hc u.2.1)] ?_
  refine hwk ?_
  refine CH.chain rfl fun K hK => ?_
  refine CX.callA (r7bank_c q r D h) ?_
  rintro _ _ ⟨rfl, rfl⟩
  (refine CX.nil ?_; refine CQ.thenK ?_; apply hK; (· exact selA); clear hK K)
  refine hwk ?_
  refine wk ?_
  ((apply CQ.end1; (· rfl); (· exact .tmp rfl)); (· exact ⟨rfl, rfl⟩); (· exact selA))
theorem r7head_c (q r : Nat) (D : DS) {N : Nat} (h : D.wf N) (hN : N < 1000000) : Ctr Tryz.prog 35 [.pointer (some ⟨q, 0, none⟩)] [rjA q r, rdisk r D] (fun _ => True) (fun v M => v = .agg (hc (newR D).2.1).toArray ∧ M = [rjA q r, rdisk r D]) := by
  have hn := r7newest_c q r D h hN
  generalize newR D = u at *
  refine Ctr.intro Tryz.func35 rfl Tryz.ntmps35 rfl fun x w hp => ?_
  refine wk ?_
  refine CX.allocZ (hc HdM.z) ?_ (hv := rfl)
  intro q2
  refine wk ?_
  refine CX.callA (hn) ?_
  rintro _ _ ⟨rfl, rfl⟩
  refine wk ?_
  refine CX.allocZ (hc HdM.z) ?_ (hv := rfl)
  intro q4
  refine wk ?_
  (refine CX.storeB (vs := hc u.2.1) ?_ ?_ ?_ ?_; (· rfl); (· rfl); (· exact one_all rfl))
  refine wk ?_
  (apply CX.ps; (· apply PS.loadG (vs := hc u.2.1); (· rfl); (· rfl); (· exact CellsAt.all (by first | exact pickA | exact updA)); (· rfl)))
  (refine CX.storeB (vs := hc u.2.1) ?_ ?_ ?_ ?_; (· rfl); (· rfl); (· exact one_all rfl))
  refine wk ?_
  (apply CQ.end1; (· rfl); (· exact .cells inferInstance rfl (CellsAt.all (by first | exact pickA | exact updA)) (rfl)))
  · exact ⟨rfl, rfl⟩
  · exact selA
theorem r7bat_c (q r : Nat) (D : DS) {N : Nat} (h : D.wf N) (hN : N < 1000000) (hlit : D.dark = false) : Ctr Tryz.prog 31 [.pointer (some ⟨q, 0, none⟩)] [rjA q r, rdisk r D] (fun _ => True)
    (fun v M => ∃ a c l, v = .slice a l.length c ∧ M = [rjA q r, rdisk r D, bsA a l] ∧ l.length ≤ 4294967296 ∧ ((readM ⟨0, (newR D).2.1⟩ D).2 = 0 → l.map SlB.b = (readM ⟨0, (newR D).2.1⟩ D).1)) := by
  have hmay : (newR D).2.1.may := newH_may (read_WB h 0) (read_WB h 1)
  have hn := r7newest_c q r D h hN
  generalize newR D = u at *
  have hb := r7batches_c q r u.2.1 hmay D h hN hlit
  unfold RBatP at hb
  refine Ctr.intro Tryz.func31 rfl Tryz.ntmps31 rfl fun x w hp => ?_
  refine wk ?_
  refine CX.callA (hn) ?_
  rintro _ _ ⟨rfl, rfl⟩
  refine wk ?_
  refine CX.allocZ (hc HdM.z) ?_ (hv := rfl)
  intro q4
  refine wk ?_
  (refine CX.storeB (vs := hc u.2.1) ?_ ?_ ?_ ?_; (· rfl); (· rfl); (· exact one_all rfl))
  refine wk ?_
  (apply CX.ps; (· apply PS.loadG (vs := hc u.2.1); (· rfl); (· rfl); (· exact CellsAt.all (by first | exact pickA | exact updA)); (· rfl)))
  refine CX.callA (hb) ?_
  rintro _ _ ⟨a, c, l, ok, rfl, rfl, hl, h1, -⟩
  refine wk ?_
  (apply CQ.end1; (· rfl); (· exact .tmp rfl))
  · exact ⟨a, c, l, rfl, rfl, hl, fun h => (h1 h).2⟩
  · exact selA
theorem r7app_c (q r : Nat) (J : JM) (hJ : J.n < 4611686018427387904) (hm : J.h.may) (D : DS) {N : Nat} (h : D.wf N) (hN : N < 990000) (cm : Cx.Calm D) (hnew : newR D = (J.n, J.h, 0)) (hroom : J.h.blocks ≤ bankM D) (b : Blk) (hb : b.length ≤ 1048576) (a : Option Addr) (cap : Nat) (hn : a = none → b.length = 0 ∧ cap = 0) :
    Ctr Tryz.prog 41 [.pointer (some ⟨q, 0, none⟩), .slice a b.length cap] [rjA q r, rdisk r D] (fun x => rdx a b.length (cb b) x) (fun v M => v = .int .i64 (appendM J D b).1 ∧ M = [rjA q r, rdisk r (appendM J D b).2.2]) := by
  have hbank : bankM D ≤ 2047 := by have := h.hi; unfold bankM; omega
  have h64 := h.lo
  obtain ⟨m1, m2, m3⟩ := hm
  have hmul : J.h.bank * bankM D ≤ 2 * 2048 := Nat.mul_le_mul (by omega) (by omega)
  have hfst : firstM D J.h.bank ≤ 4098 := by unfold firstM; omega
  have hf2 : 2 ≤ firstM D J.h.bank := by unfold firstM; omega
  have hcn := r7newest_c q r D h (by omega)
  rw [hnew] at hcn
  have hnew1 : (newH (D.read 0).1 (D.read 1).1).1 = J.n := by have := congrArg Prod.fst hnew; exact this
  have hdark : rdisk r D = rdisk r D := rfl
  have hcl := cut_pos b
  have hcl2 := cut_len b
  have hcW : ∀ x ∈ cutB b, WB x := chop_WB _
  have hap : appendM J D b = if (bankM D : Int) - (J.h.blocks : Int) < ((cutB b).length : Int) then (10, J, D) else layM J (firstM D J.h.bank + J.h.blocks) (cutB b) ⟨J.h.bank, J.h.blocks + (cutB b).length, J.h.batches + 1⟩ D := by
    unfold appendM; rw [asked_ok cm hb]; simp
  unfold rjA at hcn
  have hbl := r7blocks_c b hb a cap hn
  refine Ctr.intro Tryz.func41 rfl Tryz.ntmps41 rfl fun x w hp => ?_
  refine wk ?_
  refine CX.callA (hbl) ?_ (hpre := by exact rdx_ex (by first | exact pickA | exact updA) hp)
  rintro _ _ ⟨a', c', rfl, rfl⟩
  generalize cutB b = l at *
  have hk : J.h.blocks + l.length ≤ bankM D → HdM.may ⟨J.h.bank, J.h.blocks + l.length, J.h.batches + 1⟩ := fun h => ⟨m1, by dsimp only; omega, by dsimp only; omega⟩
  have hend : J.h.blocks + l.length ≤ bankM D → firstM D J.h.bank + J.h.blocks + l.length ≤ D.sure.length := fun hr => by
    have := first_le (S := D.sure) (b := J.h.bank) (i := J.h.blocks + l.length - 1) h64 m1 (by rw [← bank_eq]; omega)
    rw [← first_eq] at this; omega
  unfold rjA
  refine wk ?_
  refine CX.callA (rdark_c r D) ?_
  rw [cm.lit]
  rintro _ _ ⟨rfl, rfl⟩
  refine wk ?_
  refine CX.callA (hcn) ?_
  rintro _ _ ⟨rfl, rfl⟩
  refine wk ?_
  refine CX.allocZ (hc HdM.z) ?_ (hv := rfl)
  intro q7
  refine wk ?_
  (refine CX.storeB (vs := hc J.h) ?_ ?_ ?_ ?_; (· rfl); (· rfl); (· exact one_all rfl))
  refine wk ?_
  have hcb := r7bank_c q r D h
  have hcf := r7first_c q r D J.h.bank (by omega) h
  unfold rjA at hcb hcf
  refine CC.draw [(0, 0), (1, 0), (2, 0), (4, 0), (5, 1), (6, 0), (3, 2), (7, 0), (8, 0)] mixed rfl (by kernel_rfl) (by kernel_rfl) [bk q7 36 (hc J.h)] ?_
  refine hwk ?_
  refine CH.chain rfl fun K hK => ?_
  refine CX.callA (hcb) ?_
  rintro _ _ ⟨rfl, rfl⟩
  (refine CX.nil ?_; refine CQ.thenK ?_; apply hK; (· exact selA); clear hK K)
  by_cases h1 : (bankM D : Int) - (J.h.blocks : Int) < (l.length : Int)
  · rw [if_pos h1] at hap
    rw [hap]
    refine hwk ?_
    refine wk ?_
    ((apply CQ.end1; (· rfl); (· exact .tmp rfl)); (· exact ⟨rfl, rfl⟩); (· exact selA))
  rw [if_neg h1] at hap
  obtain ⟨e1, e2⟩ := layM_run J (firstM D J.h.bank + J.h.blocks) l ⟨J.h.bank, J.h.blocks + l.length, J.h.batches + 1⟩ D
  rw [hap, e1, e2]
  have hcy := r7lay_c q r J (firstM D J.h.bank + J.h.blocks) (by omega) l hcW (by omega) a' c' ⟨J.h.bank, J.h.blocks + l.length, J.h.batches + 1⟩ (hk (by omega)) D h (by omega) cm (hend (by omega)) hJ
    (by rw [new_kept cm h.wb hcW h64 (by omega) (hend (by omega))]; exact hnew1)
  unfold rjA at hcy
  generalize runM (layS J (firstM D J.h.bank + J.h.blocks) l ⟨J.h.bank, J.h.blocks + l.length, J.h.batches + 1⟩) D = u at *
  refine hwk ?_
  refine wk ?_
  refine CC.draw [(0, 0), (1, 0), (2, 0), (3, 1), (5, 0), (6, 1), (7, 0), (9, 0), (10, 0), (11, 1), (12, 0), (13, 1), (14, 0), (15, 0), (16, 0), (17, 0), (18, 0), (19, 1), (20, 0), (21, 0), (4, 2), (8, 0), (22, 2), (23, 0)] mixed rfl (by kernel_rfl) (by kernel_rfl) [bk q7 36 (hc J.h)] ?_
  refine hwk ?_
  refine CH.pure rfl (PS.build (vs := [(0, .int .u8 (J.h.bank : Int)), (1, .int .u32 ((J.h.blocks : Int) + (l.length : Int))), (2, .int .u32 ((J.h.batches : Int) + 1))]) (out := hc ⟨J.h.bank, J.h.blocks + l.length, J.h.batches + 1⟩) rfl rfl rfl) ?_
  refine CH.chain rfl fun K hK => ?_
  refine CX.callA (hcf) ?_
  rintro _ _ ⟨rfl, rfl⟩
  (refine CX.nil ?_; refine CQ.thenK ?_; apply hK; (· exact selA); clear hK K)
  refine hwk ?_
  refine CH.chain rfl fun K hK => ?_
  refine CX.callA (hcy) ?_ (hpre := by exact rdx_RdS (RdS.own (by first | exact pickA | exact updA) (one_flat _) (by omega)))
  rintro _ _ ⟨rfl, rfl⟩
  (refine CX.nil ?_; refine CQ.thenK ?_; apply hK; (· exact selA); clear hK K)
  refine hwk ?_
  refine wk ?_
  ((apply CQ.end1; (· rfl); (· exact .tmp rfl)); (· exact ⟨rfl, rfl⟩); (· exact selA))
theorem r7rep_c (q r : Nat) (J : JM) (hJ : J.n < 4611686018427387904) (hm : J.h.may) (D : DS) {N : Nat} (h : D.wf N) (hN : N < 990000) (cm : Cx.Calm D) (hnew : newR D = (J.n, J.h, 0)) (b : Blk) (hb : b.length ≤ 1048576) (a : Option Addr) (cap : Nat) (hn : a = none → b.length = 0 ∧ cap = 0) :
    Ctr Tryz.prog 42 [.pointer (some ⟨q, 0, none⟩), .slice a b.length cap] [rjA q r, rdisk r D] (fun x => rdx a b.length (cb b) x) (fun v M => v = .int .i64 (replaceM J D b).1 ∧ M = [rjA q r, rdisk r (replaceM J D b).2.2]) := by
  have hbank : bankM D ≤ 2047 := by have := h.hi; unfold bankM; omega
  have h64 := h.lo
  obtain ⟨m1, m2, m3⟩ := hm
  have hmul : (1 - J.h.bank) * bankM D ≤ 2 * 2048 := Nat.mul_le_mul (by omega) (by omega)
  have hfst : firstM D (1 - J.h.bank) ≤ 4098 := by unfold firstM; omega
  have hf2 : 2 ≤ firstM D (1 - J.h.bank) := by unfold firstM; omega
  have hcn := r7newest_c q r D h (by omega)
  rw [hnew] at hcn
  have hnew1 : (newH (D.read 0).1 (D.read 1).1).1 = J.n := by have := congrArg Prod.fst hnew; exact this
  have hcl := cut_pos b
  have hcl2 := cut_len b
  have hcW : ∀ x ∈ cutB b, WB x := chop_WB _
  have hap : replaceM J D b = if bankM D < (cutB b).length then (10, J, D) else layM J (firstM D (1 - J.h.bank)) (cutB b) ⟨1 - J.h.bank, (cutB b).length, 1⟩ D := by
    unfold replaceM; rw [asked_ok cm hb]; simp
  unfold rjA at hcn
  have hbl := r7blocks_c b hb a cap hn
  refine Ctr.intro Tryz.func42 rfl Tryz.ntmps42 rfl fun x w hp => ?_
  refine wk ?_
  refine CX.callA (hbl) ?_ (hpre := by exact rdx_ex (by first | exact pickA | exact updA) hp)
  rintro _ _ ⟨a', c', rfl, rfl⟩
  generalize cutB b = l at *
  have hk : l.length ≤ bankM D → HdM.may ⟨1 - J.h.bank, l.length, 1⟩ := fun h => ⟨by dsimp only; omega, by dsimp only; omega, by dsimp only; omega⟩
  have hend : l.length ≤ bankM D → firstM D (1 - J.h.bank) + l.length ≤ D.sure.length := fun hr => by
    have := first_le (S := D.sure) (b := 1 - J.h.bank) (i := l.length - 1) h64 (by omega) (by rw [← bank_eq]; omega)
    rw [← first_eq] at this; omega
  have hcb := r7bank_c q r D h
  have hcf := r7first_c q r D (1 - J.h.bank) (by omega) h
  unfold rjA at hcb hcf
  unfold rjA
  refine wk ?_
  refine CX.callA (rdark_c r D) ?_
  rw [cm.lit]
  rintro _ _ ⟨rfl, rfl⟩
  refine wk ?_
  refine CX.callA (hcb) ?_
  rintro _ _ ⟨rfl, rfl⟩
  by_cases h1 : bankM D < l.length
  · rw [if_pos h1] at hap
    rw [hap]
    refine wk ?_
    ((apply CQ.end1; (· rfl); (· exact .tmp rfl)); (· exact ⟨rfl, rfl⟩); (· exact selA))
  rw [if_neg h1] at hap
  refine wk ?_
  refine CX.callA (hcn) ?_
  rintro _ _ ⟨rfl, rfl⟩
  refine wk ?_
  refine CX.allocZ (hc HdM.z) ?_ (hv := rfl)
  intro q7
  refine wk ?_
  (refine CX.storeB (vs := hc J.h) ?_ ?_ ?_ ?_; (· rfl); (· rfl); (· exact one_all rfl))
  refine wk ?_
  obtain ⟨e1, e2⟩ := layM_run J (firstM D (1 - J.h.bank)) l ⟨1 - J.h.bank, l.length, 1⟩ D
  rw [hap, e1, e2]
  have hcy := r7lay_c q r J (firstM D (1 - J.h.bank)) (by omega) l hcW (by omega) a' c' ⟨1 - J.h.bank, l.length, 1⟩ (hk (by omega)) D h (by omega) cm (hend (by omega)) hJ
    (by rw [new_kept cm h.wb hcW h64 (by omega) (hend (by omega))]; exact hnew1)
  unfold rjA at hcy
  generalize runM (layS J (firstM D (1 - J.h.bank)) l ⟨1 - J.h.bank, l.length, 1⟩) D = u at *
  refine CC.draw [(0, 0), (1, 0), (2, 0), (3, 1), (4, 0), (6, 0), (7, 0), (8, 1), (9, 0), (10, 0), (11, 0), (12, 0), (13, 0), (5, 2), (14, 2), (15, 0)] mixed rfl (by kernel_rfl) (by kernel_rfl) [bk q7 36 (hc J.h)] ?_
  refine hwk ?_
  rw [show (1 : Int) - (J.h.bank : Int) = ((1 - J.h.bank : Nat) : Int) by omega]
  refine CH.pure rfl (PS.build (vs := [(0, .int .u8 ((1 - J.h.bank : Nat) : Int)), (1, .int .u32 (l.length : Int)), (2, .int .u32 1)]) (out := hc ⟨1 - J.h.bank, l.length, 1⟩) rfl rfl rfl) ?_
  refine CH.chain rfl fun K hK => ?_
  refine CX.callA (hcf) ?_
  rintro _ _ ⟨rfl, rfl⟩
  (refine CX.nil ?_; refine CQ.thenK ?_; apply hK; (· exact selA); clear hK K)
  refine hwk ?_
  refine CH.chain rfl fun K hK => ?_
  refine CX.callA (hcy) ?_ (hpre := by exact rdx_RdS (RdS.own (by first | exact pickA | exact updA) (one_flat _) (by omega)))
  rintro _ _ ⟨rfl, rfl⟩
  (refine CX.nil ?_; refine CQ.thenK ?_; apply hK; (· exact selA); clear hK K)
  refine hwk ?_
  refine wk ?_
  ((apply CQ.end1; (· rfl); (· exact .tmp rfl)); (· exact ⟨rfl, rfl⟩); (· exact selA))
def RMadeP (r : Nat) (D : DS) (v : Value) (M : List Assn) : Prop :=
  ((makeM D).1 ≠ 0 → v = .tuple #[.pointer none, .int .i64 (makeM D).1] ∧ M = [rdisk r (makeM D).2.2]) ∧
    ((makeM D).1 = 0 → ∃ q, v = .tuple #[.pointer (some ⟨q, 0, none⟩), .int .i64 0] ∧ M = [rjA q r, rdisk r (makeM D).2.2])
theorem r7make_c (r : Nat) (D : DS) {N : Nat} (h : D.wf N) (hN : N < 990000) (cm : Cx.Calm D) : Ctr Tryz.prog 43 [.pointer (some ⟨r, 0, none⟩)] [rdisk r D] (fun _ => True) (RMadeP r D) := by
  have h64 := h.lo
  unfold RMadeP rjA
  refine Ctr.intro Tryz.func43 rfl Tryz.ntmps43 rfl fun x w hp => ?_
  refine wk ?_
  refine CX.callA (rdark_c r D) ?_
  rw [cm.lit]
  rintro _ _ ⟨rfl, rfl⟩
  refine wk ?_
  refine CX.ps (PS.build (vs := [(0, .pointer (some ⟨r, 0, none⟩))]) (out := [.pointer (some ⟨r, 0, none⟩)]) rfl rfl rfl) ?_
  (refine CX.boxA (vs := [.pointer (some ⟨r, 0, none⟩)]) ?_; intro q)
  refine wk ?_
  refine CX.makeSl (l := 2) rfl rfl rfl rfl (by decide) fun q2 => ?_
  have e0 : (madeCells (Value.agg (List.replicate 128 (.int .u8 0) : List Value).toArray).cells (2 * 128)).toList = flat [zblk, zblk] := by
    have h1 := made_rep (.int .u8 0) 128 (2 * 128) (by omega)
    have h2 := flat_zs 2
    simp only [Value.cells]
    rw [h1, ← h2]; rfl
  rw [e0]
  (apply CX.ps; (· apply PS.build (vs := []) (out := hc HdM.z); (· rfl); (· rfl); (· rfl)))
  have hzz : ∀ b ∈ [zblk, zblk], WB b := fun b hb => by simp at hb; subst hb; exact WB_z
  have hcy := r7lay_c q r ⟨0, HdM.z⟩ 0 (by decide) [zblk, zblk] hzz (by decide) (some ⟨q2, 0, none⟩) 2 HdM.z (by decide) D h (by show N + 2 + 3 < 999990; omega) cm (by show 0 + 2 ≤ _; omega) (by decide)
    (by
      have g0 := settle_puts D.sure 0 [zblk, zblk] h.wb hzz (by show 0 + 2 ≤ _; omega) 0 2 (Nat.le_refl _)
      have g1 := settle_puts D.sure 0 [zblk, zblk] h.wb hzz (by show 0 + 2 ≤ _; omega) 1 2 (Nat.le_refl _)
      rw [if_pos (by omega)] at g0 g1
      have z0 : ([zblk, zblk] : List Blk).getD (0 - 0) [] = zblk := rfl
      have z1 : ([zblk, zblk] : List Blk).getD (1 - 0) [] = zblk := rfl
      rw [z0] at g0
      rw [z1] at g1
      show (newH ((settleL D.sure [] 128 0 ((List.range 2).map fun i => (0 + i, ([zblk, zblk] : List Blk).getD i []))).getD 0 []) ((settleL D.sure [] 128 0 ((List.range 2).map fun i => (0 + i, ([zblk, zblk] : List Blk).getD i []))).getD 1 [])).1 = 0
      rw [g0, g1, new_zz])
  unfold rjA at hcy
  have hmk : makeM D = layM ⟨0, HdM.z⟩ 0 [zblk, zblk] HdM.z D := rfl
  obtain ⟨e1, e2⟩ := layM_run ⟨0, HdM.z⟩ 0 [zblk, zblk] HdM.z D
  rw [← hmk] at e1 e2
  rw [← e1, ← e2] at hcy
  generalize makeM D = u at *
  refine CX.callA (hcy) ?_ (hpre := by exact rdx_RdS (RdS.own (by first | exact pickA | exact updA) (one_flat _) (by decide)))
  rintro _ _ ⟨rfl, rfl⟩
  by_cases he : u.1 = 0
  · rw [he]
    refine wk ?_
    (apply CQ.end2; (· rfl); (· exact .tmp rfl); (· exact .tmp rfl))
    · exact ⟨fun h => absurd rfl h, fun _ => ⟨q, rfl, rfl⟩⟩
    · exact selA
  · refine wk ?_
    (apply CQ.end2; (· rfl); (· exact .tmp rfl); (· exact .tmp rfl))
    · exact ⟨fun _ => ⟨rfl, rfl⟩, fun h => absurd h he⟩
    · exact selA
def ROpenP (r : Nat) (D : DS) (v : Value) (M : List Assn) : Prop :=
  ((openM D).1 ≠ 0 → v = .tuple #[.pointer none, .int .i64 (openM D).1] ∧ M = [rdisk r D]) ∧
  ((openM D).1 = 0 → ∃ q, v = .tuple #[.pointer (some ⟨q, 0, none⟩), .int .i64 0] ∧ M = [rjA q r, rdisk r D])
theorem r7open_c (r : Nat) (D : DS) {N : Nat} (h : D.wf N) (hN : N < 990000) (hlit : D.dark = false) : Ctr Tryz.prog 28 [.pointer (some ⟨r, 0, none⟩)] [rdisk r D] (fun _ => True) (ROpenP r D) := by
  have h64 := h.lo
  have hmay : (newR D).2.1.may := newH_may (read_WB h 0) (read_WB h 1)
  have hb2 := lit_both hlit h64
  have hn := fun q => r7newest_c q r D h (by omega)
  have hop : openM D = if (newR D).2.2 ≠ 0 ∨ 2305843009213693952 < (newR D).1 then (5, ⟨0, HdM.z⟩) else ((readM ⟨(newR D).1, (newR D).2.1⟩ D).2, ⟨(newR D).1, (newR D).2.1⟩) := by
    unfold openM; rw [hb2]; simp only [ne_eq, not_true_eq_false, if_false]; rfl
  unfold ROpenP rjA
  unfold rjA at hn
  generalize newR D = u at *
  have hre := read_err (J := ⟨0, u.2.1⟩) hlit h64 hmay
  have hbt := fun q => r7batches_c q r u.2.1 hmay D h (by omega) hlit
  unfold RBatP rjA at hbt
  have hrr : readM ⟨u.1, u.2.1⟩ D = readM ⟨0, u.2.1⟩ D := rfl
  rw [hrr] at hop
  generalize readM ⟨0, u.2.1⟩ D = rr at *
  refine Ctr.intro Tryz.func28 rfl Tryz.ntmps28 rfl fun x w hp => ?_
  refine wk ?_
  refine CX.callA (rdark_c r D) ?_
  rw [hlit]
  rintro _ _ ⟨rfl, rfl⟩
  refine wk ?_
  refine CX.ps (PS.build (vs := [(0, .pointer (some ⟨r, 0, none⟩))]) (out := [.pointer (some ⟨r, 0, none⟩)]) rfl rfl rfl) ?_
  (refine CX.boxA (vs := [.pointer (some ⟨r, 0, none⟩)]) ?_; intro q)
  refine wk ?_
  refine CX.callA (hn q) ?_
  rintro _ _ ⟨rfl, rfl⟩
  refine wk ?_
  refine CX.allocZ (hc HdM.z) ?_ (hv := rfl)
  intro q6
  refine wk ?_
  (refine CX.storeB (vs := hc u.2.1) ?_ ?_ ?_ ?_; (· rfl); (· rfl); (· exact one_all rfl))
  by_cases h1 : u.2.2 = 0
  rotate_left
  · rw [if_pos (.inl h1)] at hop
    rw [hop]
    refine wk ?_
    (apply CQ.end2; (· rfl); (· exact .tmp rfl); (· exact .tmp rfl))
    · exact ⟨fun _ => ⟨rfl, rfl⟩, (fun h => by cases h)⟩
    · exact selA
  by_cases h2 : 2305843009213693952 < u.1
  · rw [if_pos (.inr h2)] at hop
    rw [hop, h1]
    refine wk ?_
    (apply CQ.end2; (· rfl); (· exact .tmp rfl); (· exact .tmp rfl))
    · exact ⟨fun _ => ⟨rfl, rfl⟩, (fun h => by cases h)⟩
    · exact selA
  rw [if_neg (by rintro (h | h) <;> contradiction)] at hop
  rw [hop, h1]
  refine wk ?_
  (apply CX.ps; (· apply PS.loadG (vs := hc u.2.1); (· rfl); (· rfl); (· exact CellsAt.all (by first | exact pickA | exact updA)); (· rfl)))
  refine CX.callA (hbt q) ?_
  rintro _ _ ⟨a8, c8, l8, ok, rfl, rfl, -, hk1, hk2⟩
  by_cases h3 : rr.2 = 0
  · obtain ⟨rfl, -⟩ := hk1 h3
    refine wk ?_
    (apply CQ.end2; (· rfl); (· exact .tmp rfl); (· exact .tmp rfl))
    · exact ⟨fun h => absurd h3 h, fun _ => ⟨q, rfl, rfl⟩⟩
    · exact selA
  · obtain rfl := hk2 h3
    have h5 : rr.2 = 5 := hre.resolve_left h3
    refine wk ?_
    (apply CQ.end2; (· rfl); (· exact .tmp rfl); (· exact .tmp rfl))
    · exact ⟨fun _ => ⟨by rw [h5], rfl⟩, fun h => absurd h h3⟩
    · exact selA
end Go.Proofs.YtlckhaodecdbbaaGreat
/-! The statements' own doings of layer 7 (lives), and JournalNil, in the program. -/
namespace Go.Cx
theorem new_open : (openM (DS.new 66)).1 = 5 := by kernel_rfl
theorem new_len (n : Nat) : (DS.new n).sure.length = n := by simp [DS.new]
/-- A journal on a disk at rest, the power not to be cut. -/
structure GoodJ (n N : Nat) (D : DS) (J : JM) (bs : List Blk) : Prop where
  wf : D.wf N
  calm : Calm D
  left : D.left = 0
  len : D.sure.length = n
  js : JSt D.sure J bs
theorem GoodJ.bank {n N : Nat} {D : DS} {J : JM} {bs : List Blk} (g : GoodJ n N D J bs) : bankM D = (n - 2) / 2 := by unfold bankM; rw [g.len]
theorem GoodJ.read {n N : Nat} {D : DS} {J : JM} {bs : List Blk} (g : GoodJ n N D J bs) : readM J D = (bs, 0) := g.js.read g.calm
theorem GoodJ.up {n N M : Nat} {D : DS} {J : JM} {bs : List Blk} (g : GoodJ n N D J bs) (h : N ≤ M) : GoodJ n M D J bs := ⟨wf_up g.wf h, g.calm, g.left, g.len, g.js⟩
theorem bits_small {J : JM} (m : J.h.may) : J.h.bank < 256 ∧ J.h.batches < 4294967296 ∧ J.h.blocks < 4294967296 := by
  obtain ⟨a, b, c⟩ := m; omega
end Go.Cx
namespace Go.Proofs.YtlckhaodecdbbaaGreat
open Go.Cx
attribute [local irreducible] Go.Cx.CX Go.Cx.CC Go.Cx.CQ Go.Cx.PS Go.Cx.Ctr Go.Cx.CH
set_option maxRecDepth 10000
theorem japp_fit (p d : Nat) {n N : Nat} {D : DS} {J : JM} {bs : List Blk} (g : GoodJ n N D J bs) (n2 : J.n ≤ 59) (hN : N < 900000) (b : Blk) (m : Nat) (hm : b.length = m) (hb : m ≤ 1048576) (hr : J.h.blocks + (m + 131) / 128 ≤ (n - 2) / 2) (a : Option Addr) (cap : Nat) (hn : a = none → m = 0 ∧ cap = 0) :
    Ctr Tryz.prog 38 [.pointer (some ⟨p, 0, none⟩), .slice a m cap] [bk p 91 (jrc d J), disk d D] (fun x => rdx a m (cb b) x)
      (fun v M => v = .int .i64 0 ∧ ∃ D', M = [bk p 91 (jrc d ⟨J.n + 1, ⟨J.h.bank, J.h.blocks + (m + 131) / 128, J.h.batches + 1⟩⟩), disk d D'] ∧ GoodJ n (N + 2060) D' ⟨J.n + 1, ⟨J.h.bank, J.h.blocks + (m + 131) / 128, J.h.batches + 1⟩⟩ (bs ++ [b])) := by
  subst hm
  have hcl := cut_len b
  obtain ⟨D', e, h1, h2, h3, h4⟩ := append_go g.js g.calm g.left n2 hb (by unfold bankS; rw [hcl, g.len]; exact hr)
  refine Ctr.conseq (japp_c p d J (by omega) g.js.may D g.wf (by omega) b (by omega) a cap hn) fun v M hv => ?_
  unfold DoneP at hv
  rw [e, hcl] at hv
  obtain ⟨rfl, rfl, hw⟩ := hv
  rw [hcl] at h4
  exact ⟨_, ⟨rfl, D', rfl, hw, h1, h2, by rw [h3, g.len], h4⟩, fun x h hs => hs⟩
theorem japp_full (p d : Nat) {n N : Nat} {D : DS} {J : JM} {bs : List Blk} (g : GoodJ n N D J bs) (n2 : J.n ≤ 59) (hN : N < 900000) (b : Blk) (m : Nat) (hm : b.length = m) (hb : m ≤ 1048576) (hr : ¬ J.h.blocks + (m + 131) / 128 ≤ (n - 2) / 2) (a : Option Addr) (cap : Nat) (hn : a = none → m = 0 ∧ cap = 0) :
    Ctr Tryz.prog 38 [.pointer (some ⟨p, 0, none⟩), .slice a m cap] [bk p 91 (jrc d J), disk d D] (fun x => rdx a m (cb b) x)
      (fun v M => v = .int .i64 10 ∧ M = [bk p 91 (jrc d J), disk d D]) := by
  subst hm
  have hcl := cut_len b
  have e := (append_out g.js g.calm n2 hb).1 (by unfold bankS; rw [hcl, g.len]; omega)
  refine Ctr.conseq (japp_c p d J (by omega) g.js.may D g.wf (by omega) b (by omega) a cap hn) fun v M hv => ?_
  unfold DoneP at hv
  rw [e] at hv
  obtain ⟨rfl, rfl, hw⟩ := hv
  exact ⟨_, ⟨rfl, rfl⟩, fun x h hs => hs⟩
theorem jrep_fit (p d : Nat) {n N : Nat} {D : DS} {J : JM} {bs : List Blk} (g : GoodJ n N D J bs) (n2 : J.n ≤ 59) (hN : N < 900000) (b : Blk) (m : Nat) (hm : b.length = m) (hb : m ≤ 1048576) (hr : (m + 131) / 128 ≤ (n - 2) / 2) (a : Option Addr) (cap : Nat) (hn : a = none → m = 0 ∧ cap = 0) :
    Ctr Tryz.prog 39 [.pointer (some ⟨p, 0, none⟩), .slice a m cap] [bk p 91 (jrc d J), disk d D] (fun x => rdx a m (cb b) x)
      (fun v M => v = .int .i64 0 ∧ ∃ D', M = [bk p 91 (jrc d ⟨J.n + 1, ⟨1 - J.h.bank, (m + 131) / 128, 1⟩⟩), disk d D'] ∧ GoodJ n (N + 2060) D' ⟨J.n + 1, ⟨1 - J.h.bank, (m + 131) / 128, 1⟩⟩ [b]) := by
  subst hm
  have hcl := cut_len b
  obtain ⟨D', e, h1, h2, h3, h4⟩ := replace_go g.js g.calm g.left n2 hb (by unfold bankS; rw [hcl, g.len]; exact hr)
  refine Ctr.conseq (jrep_c p d J (by omega) g.js.may D g.wf (by omega) b (by omega) a cap hn) fun v M hv => ?_
  unfold DoneP at hv
  rw [e, hcl] at hv
  obtain ⟨rfl, rfl, hw⟩ := hv
  rw [hcl] at h4
  exact ⟨_, ⟨rfl, D', rfl, hw, h1, h2, by rw [h3, g.len], h4⟩, fun x h hs => hs⟩
theorem jrep_full (p d : Nat) {n N : Nat} {D : DS} {J : JM} {bs : List Blk} (g : GoodJ n N D J bs) (n2 : J.n ≤ 59) (hN : N < 900000) (b : Blk) (m : Nat) (hm : b.length = m) (hb : m ≤ 1048576) (hr : ¬ (m + 131) / 128 ≤ (n - 2) / 2) (a : Option Addr) (cap : Nat) (hn : a = none → m = 0 ∧ cap = 0) :
    Ctr Tryz.prog 39 [.pointer (some ⟨p, 0, none⟩), .slice a m cap] [bk p 91 (jrc d J), disk d D] (fun x => rdx a m (cb b) x)
      (fun v M => v = .int .i64 10 ∧ M = [bk p 91 (jrc d J), disk d D]) := by
  subst hm
  have hcl := cut_len b
  have e := (replace_out g.js g.calm n2 hb).1 (by unfold bankS; rw [hcl, g.len]; omega)
  refine Ctr.conseq (jrep_c p d J (by omega) g.js.may D g.wf (by omega) b (by omega) a cap hn) fun v M hv => ?_
  unfold DoneP at hv
  rw [e] at hv
  obtain ⟨rfl, rfl, hw⟩ := hv
  exact ⟨_, ⟨rfl, rfl⟩, fun x h hs => hs⟩
theorem jmake_new (d n : Nat) (h1 : 64 ≤ n) (h2 : n ≤ 4096) : Ctr Tryz.prog 37 [.pointer (some ⟨d, 0, none⟩)] [disk d (DS.new n)] (fun _ => True)
    (fun v M => ∃ p D, v = .tuple #[.pointer (some ⟨p, 0, none⟩), .int .i64 0] ∧ M = [bk p 91 (jrc d ⟨1, HdM.z⟩), disk d D] ∧ GoodJ n 2060 D ⟨1, HdM.z⟩ []) := by
  obtain ⟨m1, m2, m3, m4, m5, m6⟩ := make_new (n := n) h1 h2
  refine Ctr.conseq (jmake_c d (DS.new n) (new_wf h1 h2) (by omega)) fun v M hv => ?_
  unfold MadeP at hv
  obtain ⟨hw, -, hp⟩ := hv.2 rfl
  obtain ⟨p, rfl, rfl⟩ := hp m1
  rw [m2]
  exact ⟨_, ⟨p, _, rfl, rfl, by rw [Nat.zero_add] at hw; exact hw, m3, m4, m5, m6⟩, fun x h hs => hs⟩
theorem jroom_go (p d : Nat) {n N : Nat} {D : DS} {J : JM} {bs : List Blk} (g : GoodJ n N D J bs) : Ctr Tryz.prog 32 [.pointer (some ⟨p, 0, none⟩)] [bk p 91 (jrc d J), disk d D] (fun _ => True)
    (fun v M => v = .int .i64 ((((n - 2) / 2 : Nat) : Int) - (J.h.blocks : Int)) ∧ M = [bk p 91 (jrc d J), disk d D]) := by
  have := jroom_c p d J (bits_small g.js.may).2.2 D g.wf
  rw [g.bank] at this; exact this
theorem jbat_go (p d : Nat) {n N : Nat} {D : DS} {J : JM} {bs : List Blk} (g : GoodJ n N D J bs) (hN : N < 1000000) : Ctr Tryz.prog 30 [.pointer (some ⟨p, 0, none⟩)] [bk p 91 (jrc d J), disk d D] (fun _ => True)
    (fun v M => ∃ a c l, l.map SlB.b = bs ∧ l.length = J.h.batches ∧ v = .slice a J.h.batches c ∧ M = [bk p 91 (jrc d J), disk d D, bsA a l] ∧ (a = none → l.length = 0 ∧ c = 0) ∧ l.length ≤ c) := by
  obtain ⟨h1, h2, h3⟩ := bits_small g.js.may
  refine Ctr.conseq (jbat_c p d J h1 h2 h3 D g.wf hN) fun v M hv => ?_
  rw [g.read] at hv
  obtain ⟨a, c, l, hl, rfl, rfl, hn, hc⟩ := hv
  have hlen : l.length = J.h.batches := by
    have := congrArg List.length hl
    simp only [List.length_map] at this
    rw [g.js.batches, this]
  exact ⟨_, ⟨a, c, l, hl, hlen, by rw [hlen], rfl, hn, hc⟩, fun x h hs => hs⟩
theorem lives7_c : Ctr Tryz.prog 14 [] [] (fun _ => True) (fun v M => v = .bool true ∧ M = []) := by
  have hwf0 := new_wf (k := 66) (by omega) (by omega)
  refine Ctr.intro Tryz.func14 rfl Tryz.ntmps14 rfl fun x w hp => ?_
  refine wk ?_
  refine CX.callA (new_c 66) ?_
  rintro _ _ (⟨-, -, d, rfl, rfl⟩ | ⟨h, -, -⟩)
  rotate_left
  · omega
  refine wk ?_
  refine CX.callA (jopen_c d (DS.new 66) hwf0 (by omega)) ?_
  unfold OpenP
  rintro _ _ ⟨ho, -⟩
  obtain ⟨rfl, rfl⟩ := ho (by rw [new_open]; decide)
  rw [new_open]
  refine wk ?_
  refine CX.callA (jmake_new d 66 (by decide) (by decide)) ?_
  rintro _ _ ⟨p, D1, rfl, rfl, g1⟩
  refine wk ?_
  refine CX.callA (jroom_go p d g1) ?_
  rintro _ _ ⟨rfl, rfl⟩
  refine wk ?_
  (refine CX.makeB (125) (by decide) ?_; intro q)
  refine CX.callA (japp_fit p d g1 (by decide) (by decide) (List.replicate 125 0) 125 (by simp) (by decide) (by decide) (some ⟨q, 0, none⟩) 125 (fun h => by cases h)) ?_ (hpre := by exact rdx_own (by first | exact pickA | exact updA) (by simp))
  rintro _ _ ⟨rfl, D2, rfl, g2⟩
  refine wk ?_
  refine CX.callA (japp_fit p d g2 (by decide) (by decide) [] 0 rfl (by decide) (by decide) none 0 (fun _ => ⟨rfl, rfl⟩)) ?_ (hpre := by exact fun _ _ => .inl rfl)
  rintro _ _ ⟨rfl, D3, rfl, g3⟩
  refine wk ?_
  refine CX.callA (jroom_go p d g3) ?_
  rintro _ _ ⟨rfl, rfl⟩
  refine wk ?_
  refine CX.buildSl (parts := [(0, _), (1, _), (2, _)]) (vs := [(0, .int .u8 1), (1, .int .u8 2), (2, .int .u8 3)]) (out := cb [1, 2, 3]) rfl rfl (by decide) (by simp [fillL, Value.cells, setL]; rfl) fun q1 => ?_
  refine CX.callA (jrep_fit p d g3 (by decide) (by decide) [1, 2, 3] 3 rfl (by decide) (by decide) (some ⟨q1, 0, none⟩) 3 (fun h => by cases h)) ?_ (hpre := by exact bk_rdx (b := q1) (t := 5) (by first | exact pickA | exact updA) rfl)
  rintro _ _ ⟨rfl, D4, rfl, g4⟩
  refine wk ?_
  refine CX.callA (jbat_go p d g4 (by decide)) ?_
  rintro _ _ ⟨a5, c5, l5, hm5, hl5, rfl, rfl, -, -⟩
  dsimp only at hl5
  refine wk ?_
  obtain ⟨r, rfl⟩ : ∃ r, l5 = [r] := by
    match l5, hl5 with
    | [r], _ => exact ⟨r, rfl⟩
  simp only [List.map_cons, List.map_nil, List.cons.injEq, and_true] at hm5
  refine CX.fact (p := ∃ x5, bsAt a5 [r] x5) (fun y hy => ⟨y, bs_bsA (by first | exact pickA | exact updA) y hy⟩) ?_
  rintro ⟨x5, hx5⟩
  obtain ⟨g, o, rfl⟩ := bsAt_some hx5 Nat.one_pos
  clear hx5 x5
  (refine CX.indexA (0) ?_ ?_; (· decide))
  (apply CX.ps; (· apply PS.load (v := .slice r.a r.b.length r.c); (· rfl); (· rfl); (· exact bsA_cell (l := [r]) (i := 0) (by first | exact pickA | exact updA) Nat.one_pos)))
  refine CX.buildSl (parts := [(0, _), (1, _), (2, _)]) (vs := [(0, .int .u8 1), (1, .int .u8 2), (2, .int .u8 3)]) (out := cb [1, 2, 3]) rfl rfl (by decide) (by simp [fillL, Value.cells, setL]; rfl) fun q6 => ?_
  refine CX.callA (same_c r.b [1, 2, 3] r.a (some ⟨q6, 0, none⟩) r.c 3) ?_ (hpre := by exact fun y hy => ⟨((bs_bsA (l := [r]) (by first | exact pickA | exact updA) y hy).2 r (by simp)).r, bk_rdx (b := q6) (t := 5) (by first | exact pickA | exact updA) rfl y hy⟩)
  rw [decide_eq_true hm5]
  rintro _ _ ⟨rfl, rfl⟩
  refine wk ?_
  refine CX.callA (jroom_go p d g4) ?_
  rintro _ _ ⟨rfl, rfl⟩
  refine wk ?_
  refine CX.callA (jhead_c p d _) ?_
  rintro _ _ ⟨rfl, rfl⟩
  refine wk ?_
  (refine CX.makeB (3968) (by decide) ?_; intro q7)
  refine CX.callA (japp_full p d g4 (by decide) (by decide) (List.replicate 3968 0) 3968 (by rw [List.length_replicate]) (by decide) (by decide) (some ⟨q7, 0, none⟩) 3968 (fun h => by cases h)) ?_ (hpre := by exact rdx_own (by first | exact pickA | exact updA) (by rw [List.length_replicate]))
  rintro _ _ ⟨rfl, rfl⟩
  refine wk ?_
  ((apply CQ.end1; (· rfl); (· exact .tmp rfl)); (· exact ⟨rfl, rfl⟩); (· exact selA))
end Go.Proofs.YtlckhaodecdbbaaGreat
/-! The journal in plain Lean, on whatever stands on a disk: what is laid is the newest, and is read. No program in sight. -/
namespace Go.Cx
theorem parse_append {b : Blk} (hb : b.length ≤ 1048576) : ∀ (k : Nat) (l : List Blk) (all : Blk) (bs : List Blk), all.length % 128 = 0 → parseM k l all = (bs, 0) → parseM (k + 1) l (all ++ (cutB b).flatten) = (bs ++ [b], 0)
  | 0, l, all, bs, hm, h => by
    rw [parseM] at h
    split at h
    · simp at h
    · rename_i h0
      obtain rfl : all = [] := List.length_eq_zero_iff.1 (by omega)
      obtain rfl : l = bs := (Prod.mk.inj h).1
      have := parse_print [b] l (fun x hx => by rw [List.mem_singleton.1 hx]; exact hb)
      rw [Cut_one] at this
      exact this
  | k + 1, l, all, bs, hm, h => by
    rw [parseM] at h
    split at h
    · simp at h
    rename_i h1
    split at h
    · simp at h
    rename_i h2
    have h1' : (Cx.rowAt all 0 1048576).2.2 = 0 := Decidable.not_not.1 h1
    obtain ⟨q1, q2, q3, q4, -⟩ := rowAt_inv (b := all) (r := (Cx.rowAt all 0 1048576).1) (at_ := 0) (most := 1048576) (nx := (Cx.rowAt all 0 1048576).2.1) (by rw [← h1'])
    generalize Cx.rowAt all 0 1048576 = ro at *
    obtain ⟨r, nx, e⟩ := ro
    dsimp only at *
    have hle : upB nx ≤ all.length := by unfold upB; omega
    have hge := upB_ge' nx
    have hr : Cx.rowAt (all ++ (cutB b).flatten) 0 1048576 = (r, 0 + 4 + r.length, 0) := rowAt_print (rest := all.drop nx ++ (cutB b).flatten) (by omega) (by
      rw [List.drop_zero] at q1 ⊢
      rw [← List.append_assoc, ← q1]) q4 (by omega)
    rw [parseM, hr]
    simp only [ne_eq, not_true_eq_false, if_false]
    rw [← q2, if_neg, List.drop_append_of_le_length hle]
    · exact parse_append hb k _ _ bs (by rw [List.length_drop]; unfold upB at hle ⊢; omega) h
    · rw [List.drop_append_of_le_length (by omega), List.take_append_of_le_length (by rw [List.length_drop]; omega)]
      exact h2
/-- What stands from one block on. -/
def cont (S : List Blk) (f n : Nat) : Blk := ((List.range' 0 n).map fun i => S.getD (f + i) []).flatten
theorem sum128 : ∀ (n s : Nat), ((List.range' s n).map fun _ => 128).sum = n * 128
  | 0, _ => by simp
  | n + 1, s => by rw [List.range'_succ, List.map_cons, List.sum_cons, sum128 n (s + 1)]; omega
theorem cont_len {S : List Blk} {f n : Nat} (hw : ∀ b ∈ S, WB b) (h : f + n ≤ S.length) : (cont S f n).length = n * 128 := by
  unfold cont
  rw [List.length_flatten, List.map_map]
  have : (List.range' 0 n).map (List.length ∘ fun i => S.getD (f + i) []) = (List.range' 0 n).map fun _ => 128 := by
    apply List.map_congr_left
    intro i hi
    have hi' : i < n := by simpa using (List.mem_range'_1.1 hi).2
    exact getD_WB hw (by omega)
  rw [this, sum128]
theorem cont_add (S : List Blk) (f m k : Nat) : cont S f (m + k) = cont S f m ++ ((List.range' 0 k).map fun i => S.getD (f + m + i) []).flatten := by
  unfold cont
  have : List.range' 0 (m + k) = List.range' 0 m ++ List.range' m k := by
    have := List.range'_append (s := 0) (m := m) (n := k) (step := 1)
    rw [Nat.one_mul, Nat.zero_add] at this
    exact this.symm
  rw [this, List.map_append, List.flatten_append]
  congr 2
  have h2 : List.range' m k = (List.range' 0 k).map (m + ·) := by rw [List.map_add_range', Nat.add_zero]
  rw [h2, List.map_map]
  apply List.map_congr_left
  intro i _
  simp only [Function.comp, Nat.add_assoc]
theorem cont_congr {S T : List Blk} {f g n : Nat} (h : ∀ i, i < n → S.getD (f + i) [] = T.getD (g + i) []) : cont S f n = cont T g n := by
  unfold cont
  congr 1
  apply List.map_congr_left
  intro i hi
  exact h i (by simpa using (List.mem_range'_1.1 hi).2)
theorem read_cont {D : DS} (c : Cx.Calm D) {J : JM} (hm : J.h.may) (h64 : 64 ≤ D.sure.length) : readM J D = if bankS D.sure < J.h.blocks then ([], 5) else parseM J.h.batches [] (cont D.sure (firstS D.sure J.h.bank) J.h.blocks) := by
  unfold readM
  rw [bank_eq, first_eq]
  by_cases hb : bankS D.sure < J.h.blocks
  · rw [if_pos hb, if_pos hb]
  · rw [if_neg hb, if_neg hb]
    have e := rdAll_eq (D := D) (f := firstS D.sure J.h.bank) J.h.blocks 0 [] (fun i => D.sure.getD (firstS D.sure J.h.bank + i) []) (fun k _ hk => by
      have hlt := first_le h64 hm.1 (i := k) (by omega)
      have := c.read hlt
      rw [show ((firstS D.sure J.h.bank : Nat) : Int) + (k : Int) = ((firstS D.sure J.h.bank + k : Nat) : Int) by omega, this])
    rw [e]; simp [cont]
theorem next_two (A B : Blk) : nextM A B = 0 ∨ nextM A B = 1 := by
  unfold nextM
  split
  · exact .inl rfl
  · split
    · exact .inl rfl
    · exact .inr rfl
/-- A head of a greater number is the newest, wherever it is written. -/
theorem newest_set {A B : Blk} {n : Nat} {h : HdM} (hn : (newH A B).1 = n) (h1 : n + 1 ≤ most) (hm : h.may) : newH (putH (n + 1) h).1 B = (n + 1, h, 0) ∧ newH A (putH (n + 1) h).1 = (n + 1, h, 0) := by
  have hp : (putH (n + 1) h).2 = 0 := (put_iff _ _).2 ⟨by omega, h1, hm⟩
  have hg := (get_put hp).2.2.2.2
  have hA : (getH A).1 ≤ n ∧ (getH B).1 ≤ n := by
    rw [newH_eq] at hn
    rcases get_err A with ea | ea <;> rcases get_err B with eb | eb
    · rw [if_neg (by simp [ea])] at hn
      split at hn <;> (dsimp only at hn; omega)
    · rw [if_neg (by simp [ea])] at hn
      split at hn <;> (dsimp only at hn; omega)
    · rw [if_neg (by simp [eb])] at hn
      split at hn <;> (dsimp only at hn; omega)
    · omega
  refine ⟨?_, ?_⟩
  · rw [newH_eq, hg, if_neg (by simp), if_neg (by dsimp only; omega)]
  · rw [newH_eq, hg, if_neg (by simp), if_pos (by dsimp only; omega)]
/-- Laying, on whatever stands there. -/
theorem lay_gen {D : DS} {J : JM} {at_ : Nat} {l : List Blk} {h : HdM} (c : Cx.Calm D) (hw : ∀ b ∈ D.sure, WB b) (hl : ∀ b ∈ l, WB b) (h64 : 64 ≤ D.sure.length) (hi : at_ + l.length ≤ D.sure.length) (hm : h.may) (hJ : J.n + 1 ≤ most)
    (hnew : (newH ((settleL D.sure [] 128 0 ((List.range l.length).map fun i => (at_ + i, l.getD i []))).getD 0 []) ((settleL D.sure [] 128 0 ((List.range l.length).map fun i => (at_ + i, l.getD i []))).getD 1 [])).1 = J.n) :
    (∃ D', layM J at_ l h D = (0, ⟨J.n + 1, h⟩, D') ∧ Cx.Calm D' ∧ D'.sure.length = D.sure.length ∧ newH (D'.sure.getD 0 []) (D'.sure.getD 1 []) = (J.n + 1, h, 0) ∧ ∀ k, 2 ≤ k → D'.sure.getD k [] = if at_ ≤ k ∧ k < at_ + l.length then l.getD (k - at_) [] else D.sure.getD k []) ∨
    (∃ D', layM J at_ l h D = (9, J, D') ∧ D'.dark = true ∧ D'.sure.length = D.sure.length) := by
  have hw0 : Wrote D.sure at_ l 0 D D := ⟨c.lit, rfl, by simp [c.loose], fun h => h⟩
  have hrun := run_writes hi D [DS.flush, markM J h, DS.flush] l.length 0 D (by omega) hw0
  have hls : layS J at_ l h = ((List.range' 0 l.length).map fun (j : Nat) (D : DS) => D.write ((at_ : Int) + (j : Int)) (l.getD j [])) ++ [DS.flush, markM J h, DS.flush] := by
    unfold layS writesM; rw [List.range_eq_range']
  rw [← hls] at hrun
  have dark : ∀ (D' : DS), D'.dark = true → D'.sure.length = D.sure.length → runM (layS J at_ l h) D = (9, D') → ∃ D', layM J at_ l h D = (9, J, D') ∧ D'.dark = true ∧ D'.sure.length = D.sure.length := fun D' h1 h2 h3 => ⟨D', by unfold layM; rw [h3]; rfl, h1, h2⟩
  rcases hrun with ⟨D1, w1, e1⟩ | ⟨D1, k, hk, hl0, hd, hs1, hlo, e1⟩
  rotate_left
  · exact .inr (dark D1 hd (by rw [hs1]) e1)
  rw [runM] at e1
  have lit1 : D1.lit 0 = 0 := by
    unfold DS.lit DS.there errOf
    rw [w1.lit, if_neg (by simp), w1.sure, if_pos (by omega)]
  rcases step_two D1 with ⟨h1, h2⟩ | h2
  · have e : D1.flush = (9, { D1 with dark := true }) := by unfold DS.flush; rw [lit1, h2]; simp
    rw [e] at e1
    exact .inr (dark { D1 with dark := true } rfl (by dsimp only; rw [w1.sure]) (by rw [e1]; simp))
  have e : D1.flush = (0, { D1 with sure := settleL D.sure [] 128 0 ((List.range l.length).map fun j => (at_ + j, l.getD j [])), loose := [], left := max (D1.left - 1) 0, steps := D1.steps + 1 }) := by
    unfold DS.flush; rw [lit1, h2]; simp [DS.settle, w1.sure, w1.loose]
  have g2 := fun k => settle_puts D.sure at_ l hw hl hi k l.length (Nat.le_refl _)
  have len2 := length_settleL [] 128 ((List.range l.length).map fun j => (at_ + j, l.getD j [])) D.sure 0
  have wb2 := settleL_WB [] 128 ((List.range l.length).map fun j => (at_ + j, l.getD j [])) D.sure 0 hw (fun p hp => by
    simp only [List.mem_map, List.mem_range] at hp
    obtain ⟨i, hi, rfl⟩ := hp
    exact ⟨by dsimp only; omega, getD_WB hl (by omega)⟩)
  rw [e] at e1
  simp only [ne_eq, not_true_eq_false, if_false] at e1
  generalize settleL D.sure [] 128 0 ((List.range l.length).map fun j => (at_ + j, l.getD j [])) = S2 at *
  obtain ⟨D2, hD2⟩ : ∃ D2 : DS, D2 = { D1 with sure := S2, loose := [], left := max (D1.left - 1) 0, steps := D1.steps + 1 } := ⟨_, rfl⟩
  rw [← hD2] at e1
  have c2 : Cx.Calm D2 := ⟨by rw [hD2]; exact w1.lit, by rw [hD2]⟩
  have s2 : D2.sure = S2 := by rw [hD2]
  rw [runM] at e1
  have hb2 := c2.both (by rw [s2]; omega)
  rw [s2] at hb2
  have hp : (putH (J.n + 1) h).2 = 0 := (put_iff _ _).2 ⟨by omega, hJ, hm⟩
  have hpw := putH_WB (J.n + 1) h
  obtain ⟨nx, hnx, hnxe⟩ : ∃ nx : Nat, nx < 2 ∧ nextM (S2.getD 0 []) (S2.getD 1 []) = (nx : Int) := by
    rcases next_two (S2.getD 0 []) (S2.getD 1 []) with h | h
    · exact ⟨0, by omega, h⟩
    · exact ⟨1, by omega, h⟩
  have em : markM J h D2 = D2.write (nx : Int) (putH (J.n + 1) h).1 := by
    unfold markM; rw [hb2]; simp only [ne_eq, not_true_eq_false, if_false]
    rw [if_neg (by simp [hp]), hnxe]
  have lit2 : D2.lit (nx : Int) = 0 := c2.litAt (by rw [s2]; omega)
  rcases step_two D2 with ⟨h3, h4⟩ | h4
  · have e3 : D2.write (nx : Int) (putH (J.n + 1) h).1 = (9, { D2 with dark := true }) := by unfold DS.write; rw [lit2, h4]; simp
    rw [em, e3] at e1
    exact .inr (dark { D2 with dark := true } rfl (by dsimp only; rw [s2]; exact len2) (by rw [e1]; simp))
  have e3 : D2.write (nx : Int) (putH (J.n + 1) h).1 = (0, { D2 with loose := [(nx, (putH (J.n + 1) h).1)], left := max (D2.left - 1) 0, steps := D2.steps + 1 }) := by
    unfold DS.write; rw [lit2, h4]; simp [c2.loose]
  rw [em, e3] at e1
  simp only [ne_eq, not_true_eq_false, if_false] at e1
  obtain ⟨D3, hD3⟩ : ∃ D3 : DS, D3 = { D2 with loose := [(nx, (putH (J.n + 1) h).1)], left := max (D2.left - 1) 0, steps := D2.steps + 1 } := ⟨_, rfl⟩
  rw [← hD3] at e1
  have s3 : D3.sure = S2 := by rw [hD3]; exact s2
  have lo3 : D3.loose = [(nx, (putH (J.n + 1) h).1)] := by rw [hD3]
  have dk3 : D3.dark = false := by rw [hD3]; exact c2.lit
  rw [runM] at e1
  have lit3 : D3.lit 0 = 0 := by
    unfold DS.lit DS.there errOf
    rw [dk3, if_neg (by simp), s3, if_pos (by omega)]
  rcases step_two D3 with ⟨h5, h6⟩ | h6
  · have e4 : D3.flush = (9, { D3 with dark := true }) := by unfold DS.flush; rw [lit3, h6]; simp
    rw [e4] at e1
    exact .inr (dark { D3 with dark := true } rfl (by dsimp only; rw [s3]; exact len2) (by rw [e1]; simp))
  · have hset : settleL S2 [] 128 0 [(nx, (putH (J.n + 1) h).1)] = S2.set nx (putH (J.n + 1) h).1 := by
      simp only [settleL, pickAt, List.getElem?_nil]
      rw [torn128 (getD_WB wb2 (by omega)) hpw]
    have e4 : D3.flush = (0, { D3 with sure := S2.set nx (putH (J.n + 1) h).1, loose := [], left := max (D3.left - 1) 0, steps := D3.steps + 1 }) := by
      unfold DS.flush; rw [lit3, h6]; simp [DS.settle, s3, lo3, hset]
    rw [e4] at e1
    simp only [ne_eq, not_true_eq_false, if_false, runM] at e1
    left
    refine ⟨{ D3 with sure := S2.set nx (putH (J.n + 1) h).1, loose := [], left := max (D3.left - 1) 0, steps := D3.steps + 1 }, by unfold layM; rw [e1]; simp, ⟨dk3, rfl⟩, by dsimp only; rw [List.length_set]; exact len2, ?_, fun k hk => ?_⟩
    · dsimp only
      have ns := newest_set (A := S2.getD 0 []) (B := S2.getD 1 []) hnew hJ hm
      match nx, hnx with
      | 0, _ =>
        rw [show (S2.set 0 (putH (J.n + 1) h).1).getD 0 [] = (putH (J.n + 1) h).1 by rw [List.getD_eq_getElem?_getD, List.getElem?_set_self (by omega)]; rfl,
          show (S2.set 0 (putH (J.n + 1) h).1).getD 1 [] = S2.getD 1 [] by simp only [List.getD_eq_getElem?_getD]; rw [List.getElem?_set_ne (by omega)]]
        exact ns.1
      | 1, _ =>
        rw [show (S2.set 1 (putH (J.n + 1) h).1).getD 1 [] = (putH (J.n + 1) h).1 by rw [List.getD_eq_getElem?_getD, List.getElem?_set_self (by omega)]; rfl,
          show (S2.set 1 (putH (J.n + 1) h).1).getD 0 [] = S2.getD 0 [] by simp only [List.getD_eq_getElem?_getD]; rw [List.getElem?_set_ne (by omega)]]
        exact ns.2
    · dsimp only
      rw [show (S2.set nx (putH (J.n + 1) h).1).getD k [] = S2.getD k [] by simp only [List.getD_eq_getElem?_getD]; rw [List.getElem?_set_ne (by omega)]]
      exact g2 k
/-- A journal that is open, on a disk at rest. -/
structure PJ (i n N : Nat) (D : DS) (J : JM) (bs : List Blk) : Prop where
  wf : D.wf N
  calm : Cx.Calm D
  len : D.sure.length = n
  new : newH (D.sure.getD 0 []) (D.sure.getD 1 []) = (J.n, J.h, 0)
  top : J.n ≤ 2305843009213693952 + i
  may : J.h.may
  rd : readM J D = (bs, 0)
theorem PJ.room {i n N : Nat} {D : DS} {J : JM} {bs : List Blk} (p : PJ i n N D J bs) : J.h.blocks ≤ bankS D.sure := by
  have h := p.rd
  unfold readM at h
  split at h
  · simp at h
  · rename_i hb; rw [bank_eq] at hb; omega
theorem PJ.up {i j n N M : Nat} {D : DS} {J : JM} {bs : List Blk} (p : PJ i n N D J bs) (h : i ≤ j) (k : N ≤ M) : PJ j n M D J bs := ⟨wf_up p.wf k, p.calm, p.len, p.new, Nat.le_trans p.top (by omega), p.may, p.rd⟩
/-- How laying ends. -/
def OutJ (i n N : Nat) (J : JM) (D : DS) (bs : List Blk) (r : Int × JM × DS) (bs' : List Blk) : Prop :=
  (r = (10, J, D) ∧ PJ i n N D J bs) ∨ (r.1 = 0 ∧ PJ (i + 1) n (N + 2060) r.2.2 r.2.1 bs') ∨ (r.1 = 9 ∧ r.2.2.dark = true ∧ r.2.2.sure.length = n)
theorem PJ.append {i n N : Nat} {D : DS} {J : JM} {bs : List Blk} (p : PJ i n N D J bs) (hi : i ≤ 1000) {b : Blk} (hb : b.length ≤ 1048576) (hw : (appendM J D b).2.2.wf (N + 2060)) : OutJ i n N J D bs (appendM J D b) (bs ++ [b]) := by
  have ha := asked_ok p.calm hb
  have hp := cut_pos b
  have h64 := p.wf.lo
  have h4096 := p.wf.hi
  have hroom := p.room
  obtain ⟨m1, m2, m3⟩ := p.may
  have htop := p.top
  have hbk : bankS D.sure ≤ 2047 := by unfold bankS; omega
  have hap : appendM J D b = if (bankS D.sure : Int) - (J.h.blocks : Int) < ((cutB b).length : Int) then (10, J, D) else layM J (firstS D.sure J.h.bank + J.h.blocks) (cutB b) ⟨J.h.bank, J.h.blocks + (cutB b).length, J.h.batches + 1⟩ D := by
    unfold appendM; rw [ha]; simp only [ne_eq, not_true_eq_false, if_false]; rfl
  by_cases h1 : (bankS D.sure : Int) - (J.h.blocks : Int) < ((cutB b).length : Int)
  · rw [if_pos h1] at hap
    exact .inl ⟨hap, p⟩
  rw [if_neg h1] at hap
  have hlast := first_le h64 m1 (i := J.h.blocks + (cutB b).length - 1) (by omega)
  have hf2 : 2 ≤ firstS D.sure J.h.bank := by unfold firstS; omega
  have hend : firstS D.sure J.h.bank + J.h.blocks + (cutB b).length ≤ D.sure.length := by omega
  have hm' : HdM.may ⟨J.h.bank, J.h.blocks + (cutB b).length, J.h.batches + 1⟩ := ⟨m1, by dsimp only; omega, by dsimp only; omega⟩
  have hcW : ∀ x ∈ cutB b, WB x := chop_WB _
  have hlg := lay_gen (J := J) (h := ⟨J.h.bank, J.h.blocks + (cutB b).length, J.h.batches + 1⟩) p.calm p.wf.wb hcW h64 hend hm' (by unfold most; omega) (by
    rw [settle_puts D.sure _ _ p.wf.wb hcW hend 0 _ (Nat.le_refl _), settle_puts D.sure _ _ p.wf.wb hcW hend 1 _ (Nat.le_refl _), if_neg (by omega), if_neg (by omega), p.new])
  rw [hap] at hw ⊢
  rcases hlg with ⟨D', e, c', l', n', g'⟩ | ⟨D', e, d', l'⟩
  · rw [e] at hw ⊢
    refine .inr (.inl ⟨rfl, hw, c', by rw [l']; exact p.len, n', by dsimp only; omega, hm', ?_⟩)
    have hbs : bankS D'.sure = bankS D.sure := by unfold bankS; rw [l']
    have hfs : firstS D'.sure J.h.bank = firstS D.sure J.h.bank := by unfold firstS; rw [hbs]
    rw [read_cont c' hm' (by rw [l']; exact h64)]
    dsimp only
    rw [hbs, if_neg (by omega), hfs, cont_add]
    have hrd := p.rd
    rw [read_cont p.calm p.may h64, if_neg (by omega)] at hrd
    have e1 : cont D'.sure (firstS D.sure J.h.bank) J.h.blocks = cont D.sure (firstS D.sure J.h.bank) J.h.blocks := cont_congr fun i hi => by rw [g' _ (by omega), if_neg (by omega)]
    have e2 : ((List.range' 0 (cutB b).length).map fun i => D'.sure.getD (firstS D.sure J.h.bank + J.h.blocks + i) []) = cutB b := by
      apply List.ext_getElem
      · simp
      · intro k h1 h2
        simp only [List.getElem_map, List.getElem_range', Nat.zero_add, Nat.one_mul]
        rw [g' _ (by omega), if_pos (by omega), Nat.add_sub_cancel_left]
        simp [List.getD, h2]
    rw [e1, e2]
    exact parse_append hb _ [] _ bs (by rw [cont_len p.wf.wb (by omega)]; omega) hrd
  · rw [e]
    exact .inr (.inr ⟨rfl, d', by rw [l']; exact p.len⟩)
set_option maxRecDepth 20000 in
theorem PJ.replace {i n N : Nat} {D : DS} {J : JM} {bs : List Blk} (p : PJ i n N D J bs) (hi : i ≤ 1000) {b : Blk} (hb : b.length ≤ 1048576) (hw : (replaceM J D b).2.2.wf (N + 2060)) : OutJ i n N J D bs (replaceM J D b) [b] := by
  have ha := asked_ok p.calm hb
  have hp := cut_pos b
  have h64 := p.wf.lo
  have h4096 := p.wf.hi
  obtain ⟨m1, m2, m3⟩ := p.may
  have htop := p.top
  have hbk : bankS D.sure ≤ 2047 := by unfold bankS; omega
  have hap : replaceM J D b = if bankS D.sure < (cutB b).length then (10, J, D) else layM J (firstS D.sure (1 - J.h.bank)) (cutB b) ⟨1 - J.h.bank, (cutB b).length, 1⟩ D := by
    unfold replaceM; rw [ha]; simp only [ne_eq, not_true_eq_false, if_false]; rfl
  by_cases h1 : bankS D.sure < (cutB b).length
  · rw [if_pos h1] at hap
    exact .inl ⟨hap, p⟩
  rw [if_neg h1] at hap
  have hlast := first_le h64 (show 1 - J.h.bank < 2 by omega) (i := (cutB b).length - 1) (by omega)
  have hf2 : 2 ≤ firstS D.sure (1 - J.h.bank) := by unfold firstS; omega
  have hend : firstS D.sure (1 - J.h.bank) + (cutB b).length ≤ D.sure.length := by omega
  have hm' : HdM.may ⟨1 - J.h.bank, (cutB b).length, 1⟩ := ⟨by dsimp only; omega, by dsimp only; omega, by dsimp only; omega⟩
  have hcW : ∀ x ∈ cutB b, WB x := chop_WB _
  have hlg := lay_gen (J := J) (h := ⟨1 - J.h.bank, (cutB b).length, 1⟩) p.calm p.wf.wb hcW h64 hend hm' (by unfold most; omega) (by
    rw [settle_puts D.sure _ _ p.wf.wb hcW hend 0 _ (Nat.le_refl _), settle_puts D.sure _ _ p.wf.wb hcW hend 1 _ (Nat.le_refl _), if_neg (by omega), if_neg (by omega), p.new])
  rw [hap] at hw ⊢
  rcases hlg with ⟨D', e, c', l', n', g'⟩ | ⟨D', e, d', l'⟩
  · rw [e] at hw ⊢
    refine .inr (.inl ⟨rfl, hw, c', by rw [l']; exact p.len, n', by dsimp only; omega, hm', ?_⟩)
    have hbs : bankS D'.sure = bankS D.sure := by unfold bankS; rw [l']
    have hfs : firstS D'.sure (1 - J.h.bank) = firstS D.sure (1 - J.h.bank) := by unfold firstS; rw [hbs]
    rw [read_cont c' hm' (by rw [l']; exact h64)]
    dsimp only
    rw [hbs, if_neg (by omega), hfs]
    have e2 : cont D'.sure (firstS D.sure (1 - J.h.bank)) (cutB b).length = (Cut [b]).flatten := by
      unfold cont
      rw [Cut_one]
      congr 1
      apply List.ext_getElem
      · simp
      · intro k h1 h2
        simp only [List.getElem_map, List.getElem_range', Nat.zero_add, Nat.one_mul]
        rw [g' _ (by omega), if_pos (by omega), Nat.add_sub_cancel_left]
        simp [List.getD, h2]
    rw [e2]
    exact parse_print [b] [] (fun x hx => by rw [List.mem_singleton.1 hx]; exact hb)
  · rw [e]
    exact .inr (.inr ⟨rfl, d', by rw [l']; exact p.len⟩)
theorem new_z2 : newH zblk zblk = (0, HdM.z, 7) := by decide +kernel
/-- Made anew, on whatever stands there. -/
theorem make_gen {n N : Nat} {D : DS} (w : D.wf N) (c : Cx.Calm D) (hl : D.sure.length = n) (hw : (makeM D).2.2.wf (N + 2060)) : ((makeM D).1 = 0 ∧ PJ 0 n (N + 2060) (makeM D).2.2 (makeM D).2.1 []) ∨ ((makeM D).1 = 9 ∧ (makeM D).2.2.dark = true ∧ (makeM D).2.2.sure.length = n) := by
  have h64 := w.lo
  have hzz : ∀ b ∈ [zblk, zblk], WB b := fun b hb => by simp at hb; subst hb; exact WB_z
  have hend : 0 + [zblk, zblk].length ≤ D.sure.length := by show 0 + 2 ≤ _; omega
  have hlg := lay_gen (J := ⟨0, HdM.z⟩) (h := HdM.z) (l := [zblk, zblk]) (at_ := 0) c w.wb hzz h64 hend (by decide) (by decide) (by
    rw [settle_puts D.sure 0 _ w.wb hzz hend 0 _ (Nat.le_refl _), settle_puts D.sure 0 _ w.wb hzz hend 1 _ (Nat.le_refl _), if_pos (by show 0 ≤ 0 ∧ 0 < 0 + 2; omega), if_pos (by show 0 ≤ 1 ∧ 1 < 0 + 2; omega)]
    show (newH zblk zblk).1 = 0
    rw [new_z2])
  have hmk : makeM D = layM ⟨0, HdM.z⟩ 0 [zblk, zblk] HdM.z D := rfl
  rw [hmk] at hw ⊢
  rcases hlg with ⟨D', e, c', l', n', g'⟩ | ⟨D', e, d', l'⟩
  · rw [e] at hw ⊢
    refine .inl ⟨rfl, hw, c', by rw [l']; exact hl, n', by show 1 ≤ _; omega, (by decide : HdM.z.may), ?_⟩
    rw [read_cont c' (J := ⟨0 + 1, HdM.z⟩) (by decide) (by rw [l']; exact h64), if_neg (by show ¬ _ < 0; omega)]
    rfl
  · rw [e]
    exact .inr ⟨rfl, d', by rw [l']; exact hl⟩
/-- Opened, on whatever stands there. -/
theorem open_gen {n N : Nat} {D : DS} (w : D.wf N) (c : Cx.Calm D) (hl : D.sure.length = n) (h : (openM D).1 = 0) : ∃ bs, PJ 0 n N D (openM D).2 bs := by
  have h64 := w.lo
  unfold openM at h ⊢
  rw [c.both h64] at h ⊢
  simp only [ne_eq, not_true_eq_false, if_false] at h ⊢
  split at h
  · simp at h
  rename_i hc
  rw [if_neg hc]
  have he : (newH (D.sure.getD 0 []) (D.sure.getD 1 [])).2.2 = 0 := Decidable.byContradiction fun e => hc (.inl e)
  have hn : (newH (D.sure.getD 0 []) (D.sure.getD 1 [])).1 ≤ 2305843009213693952 := by
    have : ¬ 2305843009213693952 < (newH (D.sure.getD 0 []) (D.sure.getD 1 [])).1 := fun e => hc (.inr e)
    omega
  have hm := newH_WBmay (getD_WB w.wb (k := 0) (by omega)) (getD_WB w.wb (k := 1) (by omega)) he
  dsimp only at h ⊢
  generalize hu : newH (D.sure.getD 0 []) (D.sure.getD 1 []) = u at *
  refine ⟨(readM ⟨u.1, u.2.1⟩ D).1, w, c, hl, ?_, hn, hm, ?_⟩
  · rw [hu, ← he]
  · rw [← h]
end Go.Cx
/-! Stepping through a region whose order is open: what is read is held in weaker words. No program in sight. -/
namespace Go.Cx
section
variable {P : Program} {ops : Array Oper} {Q : Exit → Act → World → Prop} {n : Nat} {e0 : World} {env : Env} {L R : List Assn} {s : Order} {T : Nat → Bool}
variable {dst : Option Tmp} {ty : TypeId} {pos : String} {aft : Array Edge} {g : Option (Nat × Bool)} {op : Op}
theorem CH.readW {i : Nat} {v : Value} (hp : PS P ops n env R ⟨dst, op, ty, pos, aft, g⟩ v) (hr : ∀ h, Sep L h → Sep R h)
    (h : CH P ops Q n e0 T R (putE env dst v) L s) (ho : ops[i]? = some ⟨dst, op, ty, pos, aft, g⟩ := by rfl) : CH P ops Q n e0 T R env L ((i, 1) :: s) := fun hsel listed hB a w hf hs he => by
  simp only [ordB, Nat.le_refl, if_true, Bool.and_eq_true, Bool.or_eq_true, List.all_eq_true] at hB
  refine wpAnyT_first (rd := true) ho (Region.noSelect_spec hsel) (fun _ _ _ h => h.elim) (fun _ j oj hj hTj => ?_) _ _ _ _ (Region.free_spec ho hB.1.1.2) (by simpa using hB.1.1.1)
    (.inl ⟨gd_wanted hf hp.1, fun w' hs' => hp.2 a w' hf (hs' rfl)⟩) (fun _ => hr _ hs) (h hsel _ hB.2 _ _ (hf.put dst v) hs he)
  rcases hB.1.2 with h1 | h1
  · simp at h1
  · have := h1 j (by simpa using (Array.getElem?_eq_some_iff.1 hj).1)
    simp only [hTj, Bool.not_true, Bool.false_or, hj, Option.map_some, Option.getD_some, Array.any_eq_true', Bool.and_eq_true, beq_iff_eq] at this
    rcases this with h2 | h2
    · cases h2
    · exact h2
theorem CH.chainW {i : Nat} {o : Oper}
    (h : ∀ K : Act → World → Prop, (∀ env' L', (∀ h, Sep L' h → Sep R h) → CH P ops Q n e0 T R env' L' s → CQ K n e0 env' L') → CX P ops (Exit.then K (NoPanic Q)) n e0 env L [o]) (ho : ops[i]? = some o := by rfl) :
    CH P ops Q n e0 T R env L ((i, 2) :: s) := fun hsel listed hB a w hf hs he => by
  have hk' : ¬ 2 ≤ 1 := by omega
  simp only [ordB, hk', if_false, Bool.and_eq_true, beq_iff_eq] at hB
  refine ⟨fun h0 => (by rw [hB.1.1] at h0; cases h0), fun j hj => ?_⟩
  rw [hB.1.1] at hj
  obtain rfl : j = i := by simpa using hj
  have := h (fun a' w' => (T j = false → Sep R w.ph → Sep R w'.ph) ∧ wpAnyT P ops (NoPanic Q) (fun w => Sep R w.ph) T s.length (listed.setIfInBounds j true) a' w')
    (fun env' L' hg hch a' w' hf' hs' he' => ⟨fun _ _ => hg _ hs', hch hsel _ hB.2 a' w' hf' hs' he'⟩) a w hf hs he
  simp only [wpOp, ho]
  unfold wpList at this
  split at this
  · rename_i hw
    simp only [hw, if_true]
    rcases this with h1 | ⟨h1, a0, w0, h2⟩
    · refine .inl ?_
      unfold Oper.wp at *
      generalize (execOp a.eval o).run P w = r at *
      cases r with
      | ok x w' =>
        cases x <;> simp only [Oper.upon] at h1 ⊢ <;> first
          | exact h1
          | exact h1.elim
          | exact Calls.mono h1 (fun e w'' h3 => by cases e <;> exact h3)
          | exact Rows.mono h1 (fun _ _ h3 => h3)
      | halt x w' => cases x <;> simp only [Oper.upon] at h1 ⊢ <;> exact h1
    · exact .inr ⟨h1, a0, w0, h2⟩
  · rename_i hw
    simp only [hw, if_false, Bool.false_eq_true]
    exact this
end
/-- The first cells of a block. -/
def fstAt (b : Nat) (vs : List Value) (h : PH) : Prop := ∃ (cs : Array Value) (t : Nat) (fr : Nat × Nat), h b = some (.cells cs t fr) ∧ ∀ (j : Nat) (v : Value), vs[j]? = some v → cs[j]? = some v
theorem fstAt_mono {b : Nat} {vs : List Value} {h k : PH} (l : Le h k) (a : fstAt b vs h) : fstAt b vs k := by
  obtain ⟨cs, t, fr, e, q⟩ := a
  exact ⟨cs, t, fr, l _ _ e, q⟩
@[irreducible] def fst (b : Nat) (vs : List Value) : Assn where
  ok h := fstAt b vs h
  mono := fun _ _ l a => fstAt_mono l a
theorem fst_ok {b : Nat} {vs : List Value} {h : PH} : (fst b vs).ok h ↔ fstAt b vs h := by
  unfold fst; exact Iff.rfl
theorem CellAt.fst {L L' : List Assn} {b o : Nat} {vs : List Value} {v : Value} (p : Pick (Cx.fst b vs) L L') (hv : vs[o]? = some v) : CellAt L b o v := fun h s => by
  obtain ⟨cs, t, fr, e, hc⟩ := fst_ok.1 (p.ok s)
  exact ⟨cs, t, fr, e, hc o v hv⟩
theorem bk_fst {b t : Nat} {vs ws : List Value} (h : PH) (k : (bk b t (vs ++ ws)).ok h) : (Cx.fst b vs).ok h := fst_ok.2 ⟨_, _, _, bk_ok.1 k, fun j v hj => by
  have := (List.getElem?_eq_some_iff.1 hj).1
  simp only [List.getElem?_toArray]
  rw [List.getElem?_append_left this]; exact hj⟩
/-- One of what is known in weaker words. -/
theorem Sep.weak1 {A B : Assn} {L M : List Assn} (p : Pick A L M) (hB : ∀ k, A.ok k → B.ok k) {h : PH} (s : Sep L h) : Sep (B :: M) h := by
  obtain ⟨S, a, b⟩ := p.sep s
  exact ⟨S, hB _ a, b⟩
end Go.Cx
/-! The statements' own doings of layer 7 (desk: open, alike), in the program. -/
namespace Go.Proofs.YtlckhaodecdbbaaGreat
open Go.Cx
attribute [local irreducible] Go.Cx.CX Go.Cx.CC Go.Cx.CQ Go.Cx.PS Go.Cx.Ctr Go.Cx.CH
set_option maxRecDepth 10000
/-- A journal on a disk, and the document's. -/
abbrev Two := Option (Nat × Nat × JM)
def twoJ (s : Two) : Value := .pointer (s.map fun u => ⟨u.1, 0, none⟩)
def twoK (s : Two) : Value := .pointer (s.map fun u => ⟨u.2.1, 0, none⟩)
def dkc (d r : Nat) (s : Two) : List Value := [.pointer (some ⟨d, 0, none⟩), .pointer (some ⟨r, 0, none⟩)] ++ [twoJ s, twoK s]
def dks (d r : Nat) : Two → List Assn
  | none => []
  | some (p, q, J) => [bk p 91 (jrc d J), rjA q r]
@[irreducible] def deskA (dk d r : Nat) (s : Two) (D : DS) : Assn := exA (X := Unit) (fun _ => True) fun _ => bk dk 44 (dkc d r s) :: disk d D :: rdisk r D :: dks d r s
theorem deskA_eq (dk d r : Nat) (s : Two) (D : DS) : deskA dk d r s D = exA (X := Unit) (fun _ => True) fun _ => bk dk 44 (dkc d r s) :: disk d D :: rdisk r D :: dks d r s := by unfold deskA; rfl
/-- What it is to be opened anew. -/
def Opened (D : DS) (s : Two) : Prop := (s = none ∧ (openM D).1 ≠ 0) ∨ ∃ p q, s = some (p, q, (openM D).2) ∧ (openM D).1 = 0
theorem open7_c (dk d r : Nat) (s : Two) (D : DS) {N : Nat} (h : D.wf N) (hN : N < 990000) (hlit : D.dark = false) : Ctr Tryz.prog 10 [.pointer (some ⟨dk, 0, none⟩)] [deskA dk d r s D] (fun _ => True)
    (fun v M => v = .bool true ∧ ∃ s', M = [deskA dk d r s' D] ∧ Opened D s') := by
  have hjo := jopen_c d D h hN
  have hro := r7open_c r D h hN hlit
  unfold OpenP at hjo
  unfold ROpenP at hro
  unfold Opened
  generalize openM D = o at *
  rcases s with _ | ⟨p, q, J⟩
  · refine Ctr.intro Tryz.func10 rfl Tryz.ntmps10 rfl fun x w hp => ?_
    refine CC.openL (deskA_eq dk d r _ D) (by first | exact pickA | exact updA) ?_
    rintro ⟨⟩ -
    simp only [dks, dkc, twoJ, twoK, Option.map]
    refine wk ?_
    refine CX.callA (hjo) ?_
    rintro _ _ ⟨hj1, hj2⟩
    by_cases he : o.1 = 0
    · obtain ⟨p', rfl, rfl⟩ := hj2 he
      refine wk ?_
      refine CX.callA (hro) ?_
      rintro _ _ ⟨-, hr2⟩
      obtain ⟨q', rfl, rfl⟩ := hr2 he
      refine wk ?_
      (refine CX.ps (PS.eqlBool true ?_ Tryz.underlying4 rfl rfl rfl) ?_; (· rfl))
      refine wk ?_
      refine CQ.shutL (deskA_eq dk d r (some (p', q', o.2)) D) () trivial (by simp only [dks, dkc, twoJ, twoK, Option.map]; exact selA) ?_
      (apply CQ.end1; (· rfl); (· exact .tmp rfl))
      · exact ⟨rfl, some (p', q', o.2), rfl, .inr ⟨p', q', rfl, he⟩⟩
      · exact selA
    · obtain ⟨rfl, rfl⟩ := hj1 he
      refine wk ?_
      refine CX.callA (hro) ?_
      rintro _ _ ⟨hr1, -⟩
      obtain ⟨rfl, rfl⟩ := hr1 he
      generalize hz : o.1 = z at *
      refine wk ?_
      (refine CX.ps (PS.eqlBool true ?_ Tryz.underlying4 rfl rfl rfl) ?_; (· rfl))
      refine wk ?_
      refine CQ.shutL (deskA_eq dk d r none D) () trivial (by simp only [dks, dkc, twoJ, twoK, Option.map]; exact selA) ?_
      (apply CQ.end1; (· rfl); (· exact .tmp rfl))
      · exact ⟨rfl, none, rfl, .inl ⟨rfl, he⟩⟩
      · exact selA
  · refine Ctr.intro Tryz.func10 rfl Tryz.ntmps10 rfl fun x w hp => ?_
    refine CC.openL (deskA_eq dk d r _ D) (by first | exact pickA | exact updA) ?_
    rintro ⟨⟩ -
    simp only [dks, dkc, twoJ, twoK, Option.map]
    refine wk ?_
    refine CX.callA (hjo) ?_
    rintro _ _ ⟨hj1, hj2⟩
    by_cases he : o.1 = 0
    · obtain ⟨p', rfl, rfl⟩ := hj2 he
      refine wk ?_
      refine CX.callA (hro) ?_
      rintro _ _ ⟨-, hr2⟩
      obtain ⟨q', rfl, rfl⟩ := hr2 he
      refine wk ?_
      (refine CX.ps (PS.eqlBool true ?_ Tryz.underlying4 rfl rfl rfl) ?_; (· rfl))
      refine wk ?_
      refine CQ.shutL (deskA_eq dk d r (some (p', q', o.2)) D) () trivial (by simp only [dks, dkc, twoJ, twoK, Option.map]; exact selA) ?_
      (apply CQ.end1; (· rfl); (· exact .tmp rfl))
      · exact ⟨rfl, some (p', q', o.2), rfl, .inr ⟨p', q', rfl, he⟩⟩
      · exact selA
    · obtain ⟨rfl, rfl⟩ := hj1 he
      refine wk ?_
      refine CX.callA (hro) ?_
      rintro _ _ ⟨hr1, -⟩
      obtain ⟨rfl, rfl⟩ := hr1 he
      generalize hz : o.1 = z at *
      refine wk ?_
      (refine CX.ps (PS.eqlBool true ?_ Tryz.underlying4 rfl rfl rfl) ?_; (· rfl))
      refine wk ?_
      refine CQ.shutL (deskA_eq dk d r none D) () trivial (by simp only [dks, dkc, twoJ, twoK, Option.map]; exact selA) ?_
      (apply CQ.end1; (· rfl); (· exact .tmp rfl))
      · exact ⟨rfl, none, rfl, .inl ⟨rfl, he⟩⟩
      · exact selA
theorem alike7_c (dk d r : Nat) (s : Two) (D : DS) {N : Nat} (h : D.wf N) (hN : N < 990000) (hlit : D.dark = false) (hs : ∀ u, s = some u → u.2.2.h.may ∧ newR D = (u.2.2.n, u.2.2.h, 0) ∧ (readM u.2.2 D).2 = 0) : Ctr Tryz.prog 11 [.pointer (some ⟨dk, 0, none⟩)] [deskA dk d r s D] (fun _ => True)
    (fun v M => v = .bool true ∧ M = [deskA dk d r s D]) := by
  rcases s with _ | ⟨p, q, J⟩
  · refine Ctr.intro Tryz.func11 rfl Tryz.ntmps11 rfl fun x w hp => ?_
    refine CC.openL (deskA_eq dk d r _ D) (by first | exact pickA | exact updA) ?_
    rintro ⟨⟩ -
    simp only [dks, dkc, twoJ, twoK, Option.map]
    refine wk ?_
    refine CQ.shutL (deskA_eq dk d r none D) () trivial (by simp only [dks, dkc, twoJ, twoK, Option.map]; exact selA) ?_
    ((apply CQ.end1; (· rfl); (· exact .tmp rfl)); (· exact ⟨rfl, rfl⟩); (· exact selA))
  · obtain ⟨hm, hnew, hrd⟩ := hs _ rfl
    dsimp only at hm hnew hrd
    obtain ⟨b1, b2, b3⟩ := bits_small hm
    have hjb := jbat_c p d J b1 b2 b3 D h (by omega)
    have hrb := r7bat_c q r D h (by omega) hlit
    have hjr := jroom_c p d J b3 D h
    have hrr := r7room_c q r D h (by omega)
    have hjh := jhead_c p d J
    have hrh := r7head_c q r D h (by omega)
    rw [hnew] at hrb hrr hrh
    have hre : readM ⟨0, J.h⟩ D = readM J D := rfl
    dsimp only at hrb
    rw [hre] at hrb
    refine Ctr.intro Tryz.func11 rfl Tryz.ntmps11 rfl fun x w hp => ?_
    refine CC.openL (deskA_eq dk d r _ D) (by first | exact pickA | exact updA) ?_
    rintro ⟨⟩ -
    simp only [dks, dkc, twoJ, twoK, Option.map]
    refine wk ?_
    refine CC.draw [(0, 0), (1, 0), (2, 0), (3, 1), (5, 0), (6, 0), (7, 0), (8, 1), (4, 2), (9, 2), (10, 2), (11, 0), (12, 0), (13, 0), (14, 0), (15, 1), (17, 0), (18, 0), (19, 0), (20, 1), (16, 2), (21, 2), (22, 0), (23, 0), (24, 0), (25, 0), (26, 0), (27, 0), (28, 1), (30, 0), (31, 0), (32, 0), (33, 1), (29, 2), (34, 2), (35, 0), (36, 0), (37, 0)] mixed rfl (by kernel_rfl) (by kernel_rfl) [bk dk 44 ([.pointer (some ⟨d, 0, none⟩), .pointer (some ⟨r, 0, none⟩)] ++ [.pointer (some ⟨p, 0, none⟩), .pointer (some ⟨q, 0, none⟩)])] ?_
    refine hwk ?_
    refine CH.chain rfl fun K hK => ?_
    refine CX.callA (hjb) ?_
    rintro _ _ ⟨a1, c1, l1, hl1, rfl, rfl, hn1, hc1⟩
    (refine CX.nil ?_; refine CQ.thenK ?_; apply hK; (· exact selA); clear hK K)
    refine hwk ?_
    refine CH.chain rfl fun K hK => ?_
    refine CX.callA (hrb) ?_
    rintro _ _ ⟨a2, c2, l2, rfl, rfl, hlen2, hl2⟩
    (refine CX.nil ?_; refine CQ.thenK ?_; apply hK; (· exact selA); clear hK K)
    have hl12 : l1.map SlB.b = l2.map SlB.b := by rw [hl1, hl2 hrd]
    have hlen1 : l1.length = l2.length := by have := congrArg List.length hl12; simpa using this
    refine CH.chain rfl fun K hK => ?_
    refine CX.callA (r7same_c l1 l2 (by omega) (by omega) a1 a2 c1 c2) ?_ (hpre := by exact fun y hy => ⟨bs_bsA (show Pick (bsA a1 l1) _ _ from by first | exact pickA | exact updA) y hy, bs_bsA (show Pick (bsA a2 l2) _ _ from by first | exact pickA | exact updA) y hy⟩)
    rw [decide_eq_true hl12]
    rintro _ _ ⟨rfl, rfl⟩
    (refine CX.nil ?_; refine CQ.thenK ?_; apply hK; (· exact selA); clear hK K)
    refine hwk ?_
    refine CH.chain rfl fun K hK => ?_
    refine CX.callA (hjr) ?_
    rintro _ _ ⟨rfl, rfl⟩
    (refine CX.nil ?_; refine CQ.thenK ?_; apply hK; (· exact selA); clear hK K)
    refine CH.chain rfl fun K hK => ?_
    refine CX.callA (hrr) ?_
    rintro _ _ ⟨rfl, rfl⟩
    (refine CX.nil ?_; refine CQ.thenK ?_; apply hK; (· exact selA); clear hK K)
    refine hwk ?_
    refine CH.chain rfl fun K hK => ?_
    refine CX.callA (hjh) ?_
    rintro _ _ ⟨rfl, rfl⟩
    (refine CX.nil ?_; refine CQ.thenK ?_; apply hK; (· exact selA); clear hK K)
    refine CH.chain rfl fun K hK => ?_
    refine CX.callA (hrh) ?_
    rintro _ _ ⟨rfl, rfl⟩
    (refine CX.nil ?_; refine CQ.thenK ?_; apply hK; (· exact selA); clear hK K)
    refine CH.pure rfl ((eqlHd (a := J.h) (b := J.h) rfl rfl rfl).toT rfl) ?_
    refine hwk ?_
    refine wk ?_
    refine CQ.shutL (deskA_eq dk d r (some (p, q, J)) D) () trivial (by simp only [dks, dkc, twoJ, twoK, Option.map]; exact selA) ?_
    ((apply CQ.end1; (· rfl); (· exact .tmp rfl)); (· exact ⟨rfl, rfl⟩); (· exact selA))
end Go.Proofs.YtlckhaodecdbbaaGreat
/-! The statement JournalOpens, in the program. -/
namespace Go.Cx
/-- What stands on a disk: a block as it is, or a head. -/
structure SpotV where
  n : Int
  b : Blk
  is : Bool
  num : Nat
  h : HdM
structure SpotV.ok (s : SpotV) : Prop where
  n : -9223372036854775808 ≤ s.n ∧ s.n ≤ 9223372036854775807
  b : WB s.b
  num : s.num ≤ top
  h : s.h.ok
def spc (s : SpotV) : List Value := [.int .i64 s.n] ++ cb s.b ++ ([.bool s.is, .int .u64 (s.num : Int)] ++ hc s.h)
theorem spc_len {s : SpotV} (h : s.ok) : (spc s).length = 134 := by
  have h2 : s.b.length = 128 := h.b
  simp [spc, hc, h2]
theorem spc_b {s : SpotV} (h : s.ok) : ((spc s).drop (0 + 1)).take (cb s.b).length = cb s.b := by
  simp [spc]
theorem spc_at {s : SpotV} (h : s.ok) (j : Nat) (v : Value) (hv : ([.bool s.is, .int .u64 (s.num : Int)] ++ hc s.h : List Value)[j]? = some v) : (spc s)[129 + j]? = some v := by
  have h2 : ([Value.int .i64 s.n] ++ cb s.b).length = 129 := by have := h.b.len; simp at this ⊢; omega
  unfold spc
  rw [List.getElem?_append_right (by omega), h2, Nat.add_sub_cancel_left]; exact hv
theorem spc_h {s : SpotV} (h : s.ok) : ((spc s).drop (0 + 131)).take (hc s.h).length = hc s.h := by
  have h2 : ([Value.int .i64 s.n] ++ cb s.b).length = 129 := by have := h.b.len; simp at this ⊢; omega
  unfold spc
  rw [Nat.zero_add, List.drop_append, List.drop_of_length_le (by omega), h2]
  simp [hc]
def blkS (s : SpotV) : Blk := if s.is then (putH s.num s.h).1 else s.b
theorem blkS_WB {s : SpotV} (h : s.ok) : WB (blkS s) := by
  unfold blkS; split
  · exact putH_WB _ _
  · exact h.b
theorem write_lit {D : DS} (h1 : D.left = 0) (h2 : D.dark = false) (n : Int) (b : Blk) : (D.write n b).2.left = 0 ∧ (D.write n b).2.dark = false ∧ (D.write n b).2.sure.length = D.sure.length := by
  have hs : D.step = (0, { D with left := 0, steps := D.steps + 1 }) := by unfold DS.step; rw [if_neg (by omega), h1]; rfl
  unfold DS.write
  split
  · exact ⟨h1, h2, rfl⟩
  · rw [hs]; exact ⟨rfl, h2, rfl⟩
theorem open_lit {D : DS} {N : Nat} (w : D.wf N) (hd : D.dark = false) (w0 : WB (D.read 0).1) (w1 : WB (D.read 1).1) (h : (openM D).1 = 0) : (openM D).2.h.may ∧ newH (D.read 0).1 (D.read 1).1 = ((openM D).2.n, (openM D).2.h, 0) ∧ (readM (openM D).2 D).2 = 0 := by
  have h64 := w.lo
  have r0 : D.read 0 = (D.get 0, 0) := lit_read hd (k := 0) (by omega)
  have r1 : D.read 1 = (D.get 1, 0) := lit_read hd (k := 1) (by omega)
  unfold openM at h ⊢
  rw [lit_both hd h64] at h ⊢
  simp only [ne_eq, not_true_eq_false, if_false] at h ⊢
  split at h
  · simp at h
  rename_i hc
  rw [if_neg hc]
  have he : (newH (D.read 0).1 (D.read 1).1).2.2 = 0 := Decidable.byContradiction fun e => hc (.inl e)
  have hm := newH_WBmay w0 w1 he
  dsimp only at h ⊢
  generalize hu : newH (D.read 0).1 (D.read 1).1 = u at *
  exact ⟨hm, by rw [← he], h⟩
end Go.Cx
namespace Go.Proofs.YtlckhaodecdbbaaGreat
open Go.Cx
attribute [local irreducible] Go.Cx.CX Go.Cx.CC Go.Cx.CQ Go.Cx.PS Go.Cx.Ctr Go.Cx.CH
set_option maxRecDepth 10000
theorem block7_c (s : SpotV) (h : s.ok) : Ctr Tryz.prog 8 [.agg (spc s).toArray] [] (fun _ => True) (fun v M => v = .agg (cb (blkS s)).toArray ∧ M = []) := by
  have hb := h.b
  refine Ctr.intro Tryz.func8 rfl Tryz.ntmps8 rfl fun x w hp => ?_
  refine wk ?_
  (refine CX.boxA (vs := spc s) ?_; intro q1)
  refine CX.allocZ (cb zblk) ?_
  intro q2
  refine wk ?_
  (apply CX.ps; (· apply PS.load (v := .bool s.is); (· rfl); (· rfl); (· exact CellAt.pick (by first | exact pickA | exact updA) (by rw [Nat.zero_add]; exact spc_at h 0 _ rfl))))
  unfold blkS
  cases his : s.is with
  | false =>
    refine wk ?_
    (apply CX.ps; (· apply PS.loadG (vs := cb s.b); (· rfl); (· rfl); (· exact CellsAt.pick (by first | exact pickA | exact updA) (spc_b h)); (· exact hb.len)))
    (apply CX.storeAll; (· rfl); (· rfl); (· rfl); (· first | exact pickA | exact updA); (· exact hb.len); (· exact WB_z.len); (· exact one_cb _))
    refine wk ?_
    (apply CQ.end1; (· rfl); (· exact .cells inferInstance rfl (CellsAt.all (by first | exact pickA | exact updA)) (hb.len)))
    · exact ⟨rfl, rfl⟩
    · exact selA
  | true =>
    have hp := putH_WB s.num s.h
    have hc6 := r6put_c s.num h.num s.h h.h
    rw [if_pos rfl]
    generalize putH s.num s.h = u at *
    refine wk ?_
    (apply CX.ps; (· apply PS.load (v := .int .u64 (s.num : Int)); (· rfl); (· rfl); (· exact CellAt.pick (by first | exact pickA | exact updA) (by rw [Nat.zero_add]; exact spc_at h 1 _ rfl))))
    refine wk ?_
    (apply CX.ps; (· apply PS.loadG (vs := hc s.h); (· rfl); (· rfl); (· exact CellsAt.pick (by first | exact pickA | exact updA) (spc_h h)); (· rfl)))
    refine CX.callA (hc6) ?_
    rintro _ _ ⟨rfl, rfl⟩
    refine wk ?_
    refine CX.allocZ (cb zblk) ?_
    intro q3
    (apply CX.storeAll; (· rfl); (· rfl); (· rfl); (· first | exact pickA | exact updA); (· exact hp.len); (· exact WB_z.len); (· exact one_cb _))
    refine wk ?_
    (apply CX.ps; (· apply PS.loadG (vs := cb u.1); (· rfl); (· rfl); (· exact CellsAt.all (by first | exact pickA | exact updA)); (· exact hp.len)))
    (apply CX.storeAll; (· rfl); (· rfl); (· rfl); (· first | exact pickA | exact updA); (· exact hp.len); (· exact WB_z.len); (· exact one_cb _))
    refine wk ?_
    (apply CQ.end1; (· rfl); (· exact .cells inferInstance rfl (CellsAt.all (by first | exact pickA | exact updA)) (hp.len)))
    · exact ⟨rfl, rfl⟩
    · exact selA
theorem opens7_c (n : Nat) (hn : n < 256) (l : List SpotV) (hl : ∀ s ∈ l, s.ok) (a : Option Addr) (c : Nat) : Ctr Tryz.prog 3 [.int .u8 (n : Int), .slice a l.length c] [] (fun x => rdx a (l.length * 134) (rows spc l) x) (fun v M => v = .bool true ∧ M = []) := by
  refine Ctr.intro Tryz.func3 rfl Tryz.ntmps3 rfl fun x w hp => ?_
  refine wk ?_
  refine CX.callA (new_c ((64 : Int) + (n : Int))) ?_
  rw [show ((64 : Int) + (n : Int)).toNat = 64 + n by omega]
  rintro _ _ (⟨-, -, d, rfl, rfl⟩ | ⟨h, -, -⟩)
  rotate_left
  · omega
  refine wk ?_
  refine CX.callA (rnew_c ((64 : Int) + (n : Int))) ?_
  rw [show ((64 : Int) + (n : Int)).toNat = 64 + n by omega]
  rintro _ _ (⟨-, -, r, rfl, rfl⟩ | ⟨h, -, -⟩)
  rotate_left
  · omega
  refine wk ?_
  refine CC.loop (X := Nat × DS) (fun s => [(10, .int .i64 (s.1 : Int)), (1, .slice a l.length c), (6, .pointer (some ⟨d, 0, none⟩)), (8, .pointer (some ⟨r, 0, none⟩))])
    (fun s => [disk d s.2, rdisk r s.2, exact x]) (fun s => s.1 ≤ 60 ∧ s.2.wf s.1 ∧ s.2.left = 0 ∧ s.2.dark = false ∧ s.2.sure.length = 64 + n) (fun s => 60 - s.1) (0, DS.new (64 + n)) ⟨Nat.zero_le _, new_wf (by omega) (by omega), rfl, rfl, new_len _⟩ ⟨rfl, rfl, rfl, rfl, trivial⟩ (by exact selA) ?_
  rintro ⟨i, D⟩ ⟨hi, hw, hlf, hlit, hlen⟩
  dsimp only at hi hw hlf hlit hlen ⊢
  by_cases h1 : i < l.length ∧ i < 60
  rotate_left
  · have hal : ∀ s' : Two, Opened D s' → ∀ u, s' = some u → u.2.2.h.may ∧ newR D = (u.2.2.n, u.2.2.h, 0) ∧ (readM u.2.2 D).2 = 0 := fun s' ho u hu => by
      rcases ho with ⟨rfl, -⟩ | ⟨p, q, rfl, h0⟩
      · cases hu
      · obtain rfl := Option.some.inj hu
        exact open_lit hw hlit (read_WB hw 0) (read_WB hw 1) h0
    by_cases h2 : i < l.length
    · have h3 : ¬ (i : Int) < 60 := by omega
      refine wk ?_
      refine CX.ps (PS.build (vs := [(0, .pointer (some ⟨d, 0, none⟩)), (1, .pointer (some ⟨r, 0, none⟩))]) (out := dkc d r none) rfl rfl rfl) ?_
      (refine CX.boxA (vs := dkc d r none) ?_; intro dk)
      refine wk ?_
      refine CX.shutL (deskA_eq dk d r none D) () trivial (by simp only [dks]; exact selA) ?_
      refine CX.callA (open7_c dk d r none D hw (by omega) hlit) ?_
      rintro _ _ ⟨rfl, s', rfl, hs'⟩
      refine wk ?_
      refine CX.callA (alike7_c dk d r s' D hw (by omega) hlit (hal s' hs')) ?_
      rintro _ _ ⟨rfl, rfl⟩
      refine wk ?_
      refine CX.openL (deskA_eq dk d r s' D) (by first | exact pickA | exact updA) ?_
      rintro ⟨⟩ -
      refine CX.mem (fun _ hh => Sep.cons_mono (fun _ h2 => Sep.cons_mono (fun _ h3 => Sep.cons_mono (fun _ h4 => Sep.right h4) h3) h2) hh) ?_
      refine wk ?_
      refine CX.callA (steps_c d D) ?_
      rintro _ _ ⟨rfl, rfl⟩
      refine wk ?_
      refine CX.callA (rsteps_c r D) ?_
      rintro _ _ ⟨rfl, rfl⟩
      refine wk ?_
      refine CX.callA (lives7_c) ?_
      rintro _ _ ⟨rfl, rfl⟩
      refine wk ?_
      ((apply CQ.end1; (· rfl); (· exact .tmp rfl)); (· exact ⟨rfl, rfl⟩); (· exact selA))
    · refine wk ?_
      refine CX.ps (PS.build (vs := [(0, .pointer (some ⟨d, 0, none⟩)), (1, .pointer (some ⟨r, 0, none⟩))]) (out := dkc d r none) rfl rfl rfl) ?_
      (refine CX.boxA (vs := dkc d r none) ?_; intro dk)
      refine wk ?_
      refine CX.shutL (deskA_eq dk d r none D) () trivial (by simp only [dks]; exact selA) ?_
      refine CX.callA (open7_c dk d r none D hw (by omega) hlit) ?_
      rintro _ _ ⟨rfl, s', rfl, hs'⟩
      refine wk ?_
      refine CX.callA (alike7_c dk d r s' D hw (by omega) hlit (hal s' hs')) ?_
      rintro _ _ ⟨rfl, rfl⟩
      refine wk ?_
      refine CX.openL (deskA_eq dk d r s' D) (by first | exact pickA | exact updA) ?_
      rintro ⟨⟩ -
      refine CX.mem (fun _ hh => Sep.cons_mono (fun _ h2 => Sep.cons_mono (fun _ h3 => Sep.cons_mono (fun _ h4 => Sep.right h4) h3) h2) hh) ?_
      refine wk ?_
      refine CX.callA (steps_c d D) ?_
      rintro _ _ ⟨rfl, rfl⟩
      refine wk ?_
      refine CX.callA (rsteps_c r D) ?_
      rintro _ _ ⟨rfl, rfl⟩
      refine wk ?_
      refine CX.callA (lives7_c) ?_
      rintro _ _ ⟨rfl, rfl⟩
      refine wk ?_
      ((apply CQ.end1; (· rfl); (· exact .tmp rfl)); (· exact ⟨rfl, rfl⟩); (· exact selA))
  obtain ⟨h1, h2⟩ := h1
  obtain ⟨g, off, rfl⟩ := rdx_some hp (by omega)
  have hok := hl l[i] (List.getElem_mem h1)
  have hcs : ∀ {L L' : List Assn}, Pick (exact x) L L' → CellsAt L g (off + i * 134) (spc l[i]) := fun pk => CellsAt.row pk hp (by omega) (fun y hy => spc_len (hl y hy)) h1
  have hcn : ∀ {L L' : List Assn}, Pick (exact x) L L' → CellAt L g (off + i * 134 + 0) (.int .i64 (l[i]).n) := fun pk y hy => by
    obtain ⟨cs, t, fr, e, hc⟩ := hcs pk y hy
    exact ⟨cs, t, fr, e, hc 0 _ rfl⟩
  have hslen := spc_len hok
  have hcb := block7_c l[i] hok
  have hbw := blkS_WB hok
  generalize l[i] = s at *
  have hcw := write_c d D s.n (blkS s) hbw hw (by omega)
  have hcr := rwrite_c r D s.n (blkS s) hbw hw (by omega)
  have hwl := write_lit hlf hlit s.n (blkS s)
  have hww := write_wf hw s.n hbw
  generalize D.write s.n (blkS s) = u at *
  refine wk ?_
  refine CC.draw [(0, 0), (1, 0), (2, 0), (3, 0), (4, 0), (5, 1), (6, 0), (7, 0), (8, 0), (9, 1), (12, 0), (13, 0), (14, 0), (15, 0), (16, 0), (17, 1), (18, 0), (19, 0), (20, 0), (21, 1), (10, 2), (11, 2), (22, 2), (23, 2), (24, 0)] mixed rfl (by kernel_rfl) (by kernel_rfl) [exact x] ?_
  refine hwk ?_
  refine CH.pure rfl (PS.indexAddr (j := i) rfl rfl rfl rfl h1) ?_
  refine hwk ?_
  (apply CH.read; (· rfl); (· apply PS.load (v := .int .i64 s.n); (· rfl); (· rfl); (· exact hcn (by first | exact pickA | exact updA))); (· exact selA))
  refine hwk ?_
  refine CH.pure rfl (PS.indexAddr (j := i) rfl rfl rfl rfl h1) ?_
  (apply CH.read; (· rfl); (· apply PS.loadG (vs := spc s); (· rfl); (· rfl); (· exact hcs (by first | exact pickA | exact updA)); (· exact hslen)); (· exact selA))
  refine hwk ?_
  refine CH.pure rfl (PS.indexAddr (j := i) rfl rfl rfl rfl h1) ?_
  refine hwk ?_
  (apply CH.read; (· rfl); (· apply PS.load (v := .int .i64 s.n); (· rfl); (· rfl); (· exact hcn (by first | exact pickA | exact updA))); (· exact selA))
  refine hwk ?_
  refine CH.pure rfl (PS.indexAddr (j := i) rfl rfl rfl rfl h1) ?_
  (apply CH.read; (· rfl); (· apply PS.loadG (vs := spc s); (· rfl); (· rfl); (· exact hcs (by first | exact pickA | exact updA)); (· exact hslen)); (· exact selA))
  refine CH.chain rfl fun K hK => ?_
  refine CX.callA (hcb) ?_
  rintro _ _ ⟨rfl, rfl⟩
  (refine CX.nil ?_; refine CQ.thenK ?_; apply hK; (· exact selA); clear hK K)
  refine CH.chain rfl fun K hK => ?_
  refine CX.callA (hcw) ?_
  rintro _ _ ⟨rfl, rfl⟩
  (refine CX.nil ?_; refine CQ.thenK ?_; apply hK; (· exact selA); clear hK K)
  refine CH.chain rfl fun K hK => ?_
  refine CX.callA (hcb) ?_
  rintro _ _ ⟨rfl, rfl⟩
  (refine CX.nil ?_; refine CQ.thenK ?_; apply hK; (· exact selA); clear hK K)
  refine CH.chain rfl fun K hK => ?_
  refine CX.callA (hcr) ?_
  rintro _ _ ⟨rfl, rfl⟩
  (refine CX.nil ?_; refine CQ.thenK ?_; apply hK; (· exact selA); clear hK K)
  refine hwk ?_
  refine wk ?_
  exact CQ.round (x := (i, D)) (i + 1, u.2) ⟨by dsimp only; omega, hww, hwl.1, hwl.2.1, by rw [hwl.2.2]; exact hlen⟩ (by dsimp only; omega) ⟨eqI (by omega), rfl, rfl, rfl, trivial⟩ (by exact selA)
end Go.Proofs.YtlckhaodecdbbaaGreat
/-! What may be read of a head. -/
namespace Go.Proofs.YtlckhaodecdbbaaGreat
open Go.Cx
theorem rec_head {H : Type} {enc : TypeId × Value → H} {w : World} {base : Nat} {spare : Nat → Bool} {held : Bool} :
    Rec enc Tryz.prog w base spare held 36 HdM.ok hc := fun n cs x h => by
  obtain ⟨hl, m, hf⟩ := trod_fields Tryz.underlying36 h
  have c1 : Tryz.prog.cellsOf 5 = 1 := by kernel_rfl
  have c2 : Tryz.prog.cellsOf 34 = 1 := by kernel_rfl
  have c4 : Tryz.prog.cellsOf 36 = 3 := by kernel_rfl
  obtain ⟨y0, e0⟩ : ∃ y, DataW.trod enc Tryz.prog w base spare held m 5 ((cs.drop 0).take (Tryz.prog.cellsOf 5)) = some y := hf 0 _ rfl
  rw [c1] at e0
  obtain ⟨y1, e1⟩ : ∃ y, DataW.trod enc Tryz.prog w base spare held m 34 ((cs.drop 1).take (Tryz.prog.cellsOf 34)) = some y := hf 1 _ rfl
  rw [c2] at e1
  obtain ⟨y2, e2⟩ : ∃ y, DataW.trod enc Tryz.prog w base spare held m 34 ((cs.drop 2).take (Tryz.prog.cellsOf 34)) = some y := hf 2 _ rfl
  rw [c2] at e2
  obtain ⟨a, wa, f0⟩ := rec_int Tryz.underlying5 _ _ _ e0
  obtain ⟨b, wb, f1⟩ := rec_int Tryz.underlying34 _ _ _ e1
  obtain ⟨c, wc, f2⟩ := rec_int Tryz.underlying34 _ _ _ e2
  have wa' := wf_u8 wa
  have wb' := wf_u32 wb
  have wc' := wf_u32 wc
  refine ⟨⟨a.toNat, b.toNat, c.toNat⟩, ⟨by dsimp only; omega, by dsimp only; omega, by dsimp only; omega⟩, ?_⟩
  have h0 : cs = cs.drop 0 := rfl
  have hend : cs.drop (2 + 1) = [] := List.drop_of_length_le (by rw [hl, c4]; omega)
  rw [h0, drop_part cs 0 1 f0, drop_part cs (0 + 1) 1 f1, drop_part cs (0 + 1 + 1) 1 f2, show 0 + 1 + 1 + 1 = 2 + 1 by omega, hend]
  simp [hc]; omega
end Go.Proofs.YtlckhaodecdbbaaGreat
/-! What may be read of rows and changes. -/
namespace Go.Cx
section
variable {H : Type} {enc : TypeId × Value → H} {P : Program} {w : World} {base : Nat} {spare : Nat → Bool} {held : Bool}
theorem rec_str {t : TypeId} (ht : P.underlying t = some .string) : Rec enc P w base spare held t (fun b : Blk => b.length ≤ maxLen) (fun b => [sv b]) := fun n cs x h => by
  obtain ⟨s, rfl, _, hs⟩ := DataW.trod_string ht h
  exact ⟨s.data.toList, by simpa using hs, by simp [sv]⟩
theorem rec_boolC {t : TypeId} (ht : P.underlying t = some .bool) : Rec enc P w base spare held t (fun _ : Bool => True) (fun b => [.bool b]) := fun n cs x h => by
  obtain ⟨b, rfl, _⟩ := DataW.trod_bool ht h
  exact ⟨b, trivial, rfl⟩
end
end Go.Cx
namespace Go.Proofs.YtlckhaodecdbbaaGreat
open Go.Cx
end Go.Proofs.YtlckhaodecdbbaaGreat
/-! What may be read of spots, and of acts on a journal. -/
namespace Go.Proofs.YtlckhaodecdbbaaGreat
open Go.Cx
theorem rec_spot {H : Type} {enc : TypeId × Value → H} {w : World} {base : Nat} {spare : Nat → Bool} {held : Bool} :
    Rec enc Tryz.prog w base spare held 38 SpotV.ok spc := fun n cs x h => by
  obtain ⟨hl, m, hf⟩ := trod_fields Tryz.underlying38 h
  have c0 : Tryz.prog.cellsOf 3 = 1 := by kernel_rfl
  have c1 : Tryz.prog.cellsOf 32 = 128 := by kernel_rfl
  have c2 : Tryz.prog.cellsOf 4 = 1 := by kernel_rfl
  have c3 : Tryz.prog.cellsOf 33 = 1 := by kernel_rfl
  have c4 : Tryz.prog.cellsOf 36 = 3 := by kernel_rfl
  have c5 : Tryz.prog.cellsOf 38 = 134 := by kernel_rfl
  obtain ⟨y0, e0⟩ : ∃ y, DataW.trod enc Tryz.prog w base spare held m 3 ((cs.drop 0).take (Tryz.prog.cellsOf 3)) = some y := hf 0 _ rfl
  rw [c0] at e0
  obtain ⟨y1, e1⟩ : ∃ y, DataW.trod enc Tryz.prog w base spare held m 32 ((cs.drop 1).take (Tryz.prog.cellsOf 32)) = some y := hf 1 _ rfl
  rw [c1] at e1
  obtain ⟨y2, e2⟩ : ∃ y, DataW.trod enc Tryz.prog w base spare held m 4 ((cs.drop 129).take (Tryz.prog.cellsOf 4)) = some y := hf 2 _ rfl
  rw [c2] at e2
  obtain ⟨y3, e3⟩ : ∃ y, DataW.trod enc Tryz.prog w base spare held m 33 ((cs.drop 130).take (Tryz.prog.cellsOf 33)) = some y := hf 3 _ rfl
  rw [c3] at e3
  obtain ⟨y4, e4⟩ : ∃ y, DataW.trod enc Tryz.prog w base spare held m 36 ((cs.drop 131).take (Tryz.prog.cellsOf 36)) = some y := hf 4 _ rfl
  rw [c4] at e4
  obtain ⟨a, wa, f0⟩ := rec_int Tryz.underlying3 _ _ _ e0
  obtain ⟨b, wb, f1⟩ := rec_block Tryz.underlying32 Tryz.underlying5 (by kernel_rfl) (by kernel_rfl) _ _ _ e1
  obtain ⟨c, wc, f2⟩ := rec_boolC Tryz.underlying4 _ _ _ e2
  obtain ⟨e, we, f3⟩ := rec_int Tryz.underlying33 _ _ _ e3
  obtain ⟨hd, whd, f4⟩ := rec_head _ _ _ e4
  have we' := wf_u64 we
  refine ⟨⟨a, b, c, e.toNat, hd⟩, ⟨wf_i64 wa, wb, by simp only [top]; omega, whd⟩, ?_⟩
  have h0 : cs = cs.drop 0 := rfl
  have hend : cs.drop (131 + 3) = [] := List.drop_of_length_le (by rw [hl, c5]; omega)
  rw [h0, drop_part cs 0 1 f0, drop_part cs (0 + 1) 128 f1, drop_part cs (0 + 1 + 128) 1 f2, drop_part cs (0 + 1 + 128 + 1) 1 f3, drop_part cs (0 + 1 + 128 + 1 + 1) 3 f4, show 0 + 1 + 128 + 1 + 1 + 3 = 131 + 3 by omega, hend]
  simp [spc]; omega
end Go.Proofs.YtlckhaodecdbbaaGreat
/-! What the statement DiskPlays does: two disks that are alike. -/
namespace Go.Proofs.YtlckhaodecdbbaaGreat
open Go.Cx
attribute [local irreducible] Go.Cx.CX Go.Cx.CC Go.Cx.CQ Go.Cx.PS Go.Cx.Ctr Go.Cx.CH
set_option maxRecDepth 10000

theorem act_wf {D : DS} {N : Nat} (h : D.wf N) (z n q : Int) (y : UInt8) (b : Blk) (hb : WB b) (hn : n ≤ 9223372036854775807) (l : List Int) : (actD D z n q y b l).wf (N + 1) := by
  have hs := step_wf h
  have hm := wf_mono h (Nat.le_succ N)
  have hl := h.loose
  unfold actD
  split
  · unfold DS.write
    split
    · exact hm
    rename_i h0
    split
    · rename_i h1
      have h0' : D.lit n = 0 := Decidable.not_not.1 h0
      have h2 : D.there n = 0 := by unfold DS.lit at h0'; split at h0'; cases h0'; exact h0'
      obtain ⟨k, rfl, hk⟩ := there_ok h2
      have e1 : D.step.2.loose = D.loose := by unfold DS.step; split <;> rfl
      have e2 : D.step.2.sure = D.sure := by unfold DS.step; split <;> rfl
      refine ⟨hs.lo, hs.hi, hs.wb, fun p hp => ?_, hs.left0, hs.left1, hs.steps, by simp [e1]; omega⟩
      simp only [List.mem_append, List.mem_singleton] at hp
      rcases hp with hp | rfl
      · exact hs.lb p hp
      · exact ⟨by simpa [e2] using hk, hb⟩
    · exact hs
  split
  · exact hm
  split
  · unfold DS.flush
    split
    · exact hm
    split
    · exact settle_wf hs _ _
    · exact hs
  split
  · unfold DS.arm
    split
    · exact hm
    split
    · exact hm
    · exact ⟨hm.lo, hm.hi, hm.wb, hm.lb, by simp; omega, hn, hm.steps, hm.loose⟩
  split
  · have hw := settle_wf hm l 0
    exact ⟨hw.lo, hw.hi, hw.wb, hw.lb, by simp [DS.crash], by simp [DS.crash], hw.steps, hw.loose⟩
  split
  · exact hm
  · unfold DS.rot
    split
    · exact hm
    rename_i h0
    split
    · exact hm
    · obtain ⟨k, rfl, hk⟩ := there_ok (Decidable.not_not.1 h0)
      refine ⟨by simpa using hm.lo, by simpa using hm.hi, fun b hb => ?_, fun p hp => by simpa using hm.lb p hp, hm.left0, hm.left1, hm.steps, hm.loose⟩
      rcases List.mem_or_eq_of_mem_set hb with hb | rfl
      · exact hm.wb b hb
      · have := getD_WB h.wb hk
        simpa [WB] using this
end Go.Proofs.YtlckhaodecdbbaaGreat
