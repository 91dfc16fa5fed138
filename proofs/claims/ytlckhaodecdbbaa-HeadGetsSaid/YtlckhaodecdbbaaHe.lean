/- Heads: plain laws. No program in sight. -/
import Derived.Test.YtlckhaodecdbbaaSe
set_option linter.unusedVariables false
set_option linter.unusedSimpArgs false
namespace Go.Cx
/-! ### Heads -/
structure HdM where
  bank : Nat
  blocks : Nat
  batches : Nat
deriving DecidableEq
def HdM.z : HdM := ⟨0, 0, 0⟩
structure HdM.ok (h : HdM) : Prop where
  bank : h.bank < 256
  blocks : h.blocks < 4294967296
  batches : h.batches < 4294967296
def HdM.may (h : HdM) : Prop := h.bank < 2 ∧ h.blocks ≤ 4096 ∧ h.batches ≤ h.blocks
instance (h : HdM) : Decidable h.may := by unfold HdM.may; infer_instance
def HdM.bytes (h : HdM) : Blk := le 1 h.bank ++ (le 4 h.blocks ++ le 4 h.batches)
def ofBody (b : Blk) : HdM := ⟨ofLe (b.take 1), ofLe ((b.drop 1).take 4), ofLe ((b.drop 5).take 4)⟩
def most : Nat := 4611686018427387904
def putH (n : Nat) (h : HdM) : Blk × Int := if n = 0 ∨ most < n ∨ ¬ h.may then (zblk, 2) else (sealB n h.bytes, 0)
def getH (b : Blk) : Nat × HdM × Int :=
  if (getM b).2.2 ≠ 0 then (0, HdM.z, (getM b).2.2)
  else if most < (getM b).1 ∨ ¬ (ofBody (getM b).2.1).may ∨ ∃ c ∈ (getM b).2.1.drop 9, c ≠ 0 then (0, HdM.z, 5)
  else ((getM b).1, ofBody (getM b).2.1, 0)
def newH (a b : Blk) : Nat × HdM × Int :=
  if (getH a).2.2 ≠ 0 ∧ (getH b).2.2 ≠ 0 then (0, HdM.z, 7)
  else if (getH a).2.2 ≠ 0 ∨ ((getH b).2.2 = 0 ∧ (getH a).1 < (getH b).1) then ((getH b).1, (getH b).2.1, 0)
  else ((getH a).1, (getH a).2.1, 0)
theorem bytes_len (h : HdM) : h.bytes.length = 9 := by simp [HdM.bytes]
theorem may_ok {h : HdM} (m : h.may) : h.ok := by unfold HdM.may at m; exact ⟨by omega, by omega, by omega⟩
theorem ofBody_bytes {h : HdM} (o : h.ok) (r : Blk) : ofBody (h.bytes ++ r) = h := by
  obtain ⟨a, b, c⟩ := h
  have o1 := o.bank
  have o2 := o.blocks
  have o3 := o.batches
  simp only at o1 o2 o3
  have e1 : (HdM.bytes ⟨a, b, c⟩ ++ r).take 1 = le 1 a := by simp [HdM.bytes]
  have e2 : ((HdM.bytes ⟨a, b, c⟩ ++ r).drop 1).take 4 = le 4 b := by simp [HdM.bytes, List.drop_append, List.take_append]
  have e3 : ((HdM.bytes ⟨a, b, c⟩ ++ r).drop 5).take 4 = le 4 c := by simp [HdM.bytes, List.drop_append, List.take_append]
  rw [ofBody, e1, e2, e3, ofLe_le 1 a (by omega), ofLe_le 4 b (by omega), ofLe_le 4 c (by omega)]
theorem bytes_ofBody {b : Blk} (h : 9 ≤ b.length) : (ofBody b).bytes = b.take 9 := by
  unfold ofBody HdM.bytes
  have f : ∀ (c : Blk) (k : Nat), c.length = k → le k (ofLe c) = c := fun c k e => by subst e; exact le_ofLe c
  simp only [f (b.take 1) 1 (by simp; omega), f ((b.drop 1).take 4) 4 (by simp; omega), f ((b.drop 5).take 4) 4 (by simp; omega)]
  rw [show 9 = 1 + 8 from rfl, List.take_add, show 8 = 4 + 4 from rfl, List.take_add, List.drop_drop]
theorem ofBody_ok (b : Blk) : (ofBody b).ok := by
  unfold ofBody
  have f : ∀ (c : Blk) (k : Nat), ofLe (c.take k) < 256 ^ k := fun c k =>
    Nat.lt_of_lt_of_le (ofLe_lt (c.take k)) (Nat.pow_le_pow_right (by omega) (by simp; omega))
  exact ⟨f b 1, f _ 4, f _ 4⟩
theorem zeros_of {l : Blk} (h : ¬ ∃ c ∈ l, c ≠ 0) : l = List.replicate l.length 0 := by
  apply List.eq_replicate_of_mem
  intro c hc
  exact Decidable.byContradiction fun e => h ⟨c, hc, e⟩
theorem pad_bytes (h : HdM) : padB 108 h.bytes = h.bytes ++ List.replicate 99 0 := by simp [padB, bytes_len]
theorem get_put {n : Nat} {h : HdM} (h0 : (putH n h).2 = 0) : 1 ≤ n ∧ n ≤ most ∧ h.may ∧ (putH n h).1 = sealB n h.bytes ∧ getH (putH n h).1 = (n, h, 0) := by
  unfold putH at h0 ⊢
  split at h0
  · simp at h0
  rename_i hc
  rw [if_neg hc]
  have hm : h.may := Decidable.byContradiction fun e => hc (.inr (.inr e))
  have h1 : 1 ≤ n := by omega
  have h2 : n ≤ most := by omega
  refine ⟨h1, h2, hm, rfl, ?_⟩
  have g := get_sealB (n := n) (b := h.bytes) h1 (by simp only [most, top] at *; omega) (by rw [bytes_len]; omega)
  have e := ofBody_bytes (may_ok hm) (List.replicate 99 0)
  unfold getH
  simp only [g, pad_bytes, e]
  rw [if_neg (by simp), if_neg]
  rintro (a | a | ⟨c, hc, a⟩)
  · omega
  · exact a hm
  · rw [List.drop_append, bytes_len] at hc
    have : List.drop 9 h.bytes = [] := List.drop_of_length_le (by rw [bytes_len]; omega)
    simp [this] at hc
    exact a hc
theorem put_err (n : Nat) (h : HdM) : (putH n h).2 = 0 ∨ (putH n h = (zblk, 2) ∧ ¬ (1 ≤ n ∧ n ≤ most ∧ h.may)) := by
  unfold putH
  split
  · rename_i hc; exact .inr ⟨rfl, fun ⟨a, b, c⟩ => by rcases hc with h | h | h <;> first | omega | exact h c⟩
  · exact .inl rfl
theorem put_iff (n : Nat) (h : HdM) : (putH n h).2 = 0 ↔ 1 ≤ n ∧ n ≤ most ∧ h.may := by
  constructor
  · intro h0; have := get_put h0; exact ⟨this.1, this.2.1, this.2.2.1⟩
  · rintro ⟨a, b, c⟩; unfold putH; rw [if_neg]; rintro (h | h | h) <;> first | omega | exact h c
/-- What is got is put as the same block. -/
theorem put_get {b : Blk} (w : WB b) (h0 : (getH b).2.2 = 0) : 1 ≤ (getH b).1 ∧ (getH b).1 ≤ most ∧ (getH b).2.1.may ∧ sealB (getH b).1 (getH b).2.1.bytes = b := by
  unfold getH at h0 ⊢
  by_cases hg : (getM b).2.2 = 0
  · simp only [hg, ne_eq, not_true_eq_false, if_false] at h0 ⊢
    split at h0
    · simp at h0
    rename_i hc
    rw [if_neg hc]
    have v := get_valid hg
    have g := get_ok v
    have hm : (ofBody (getM b).2.1).may := Decidable.byContradiction fun e => hc (.inr (.inl e))
    have hz : ¬ ∃ c ∈ (getM b).2.1.drop 9, c ≠ 0 := fun e => hc (.inr (.inr e))
    have hn : (getM b).1 ≤ most := by omega
    rw [g] at hm hz hn ⊢
    dsimp only at hm hz hn ⊢
    have w' : b.length = 128 := w
    refine ⟨v.num, hn, hm, ?_⟩
    have e := valid_eq w v
    conv => rhs; rw [e]
    have hl : ((b.drop 8).take 108).length = 108 := by simp; omega
    have z := zeros_of hz
    have p : padB 108 (ofBody ((b.drop 8).take 108)).bytes = padB 108 ((b.drop 8).take 108) := by
      rw [pad_bytes, bytes_ofBody (by omega)]
      have : ((b.drop 8).take 108).drop 9 = List.replicate 99 0 := by rw [z]; congr 1; simp; omega
      rw [← this, List.take_append_drop, padB, hl]; simp
    unfold sealB frontB
    rw [p]
  · rw [if_pos hg] at h0; exact absurd h0 hg
theorem get_err (b : Blk) : (getH b).2.2 = 0 ∨ (getH b).1 = 0 ∧ (getH b).2.1 = HdM.z := by
  unfold getH
  split
  · exact .inr ⟨rfl, rfl⟩
  · split
    · exact .inr ⟨rfl, rfl⟩
    · exact .inl rfl
/-- The document's way: what is put again is the same. -/
theorem getH_eq {b : Blk} (w : WB b) : getH b = if (getM b).2.2 ≠ 0 then (0, HdM.z, (getM b).2.2)
    else if (putH (getM b).1 (ofBody (getM b).2.1)).2 ≠ 0 ∨ (putH (getM b).1 (ofBody (getM b).2.1)).1 ≠ b then (0, HdM.z, 5) else ((getM b).1, ofBody (getM b).2.1, 0) := by
  by_cases hg : (getM b).2.2 = 0
  · by_cases h0 : (getH b).2.2 = 0
    · have hp := put_get w h0
      have e : getH b = ((getM b).1, ofBody (getM b).2.1, 0) := by
        unfold getH at h0 ⊢
        rw [if_neg (by simp [hg])] at h0 ⊢
        split at h0
        · simp at h0
        · rename_i hc; rw [if_neg hc]
      rw [e] at hp
      dsimp only at hp
      have h1 := (put_iff (getM b).1 (ofBody (getM b).2.1)).2 ⟨hp.1, hp.2.1, hp.2.2.1⟩
      have h2 := (get_put h1).2.2.2.1
      rw [e, if_neg (by simp [hg]), if_neg]
      rintro (a | a)
      · exact a h1
      · exact a (by rw [h2]; exact hp.2.2.2)
    · have e : getH b = (0, HdM.z, 5) := by
        unfold getH at h0 ⊢
        rw [if_neg (by simp [hg])] at h0 ⊢
        split
        · rfl
        · rename_i hc; rw [if_neg hc] at h0; simp at h0
      rw [e, if_neg (by simp [hg]), if_pos]
      by_cases h1 : (putH (getM b).1 (ofBody (getM b).2.1)).2 = 0
      · right
        intro h2
        have := (get_put h1).2.2.2.2
        rw [h2] at this
        rw [this] at h0
        simp at h0
      · exact .inl h1
  · have hg' : (getM b).2.2 ≠ 0 := hg
    rw [if_pos hg']; unfold getH; rw [if_pos hg']
/-- Its way to the newest. -/
theorem newH_eq (a b : Blk) : newH a b = if (getH a).2.2 ≠ 0 ∧ (getH b).2.2 ≠ 0 then (0, HdM.z, 7) else if (getH a).1 < (getH b).1 then ((getH b).1, (getH b).2.1, 0) else ((getH a).1, (getH a).2.1, 0) := by
  unfold newH
  split
  · rfl
  rename_i hc
  have h1 : (getH b).2.2 = 0 → 1 ≤ (getH b).1 ∨ True := fun _ => .inr trivial
  have pos : ∀ c, (getH c).2.2 = 0 → 1 ≤ (getH c).1 := fun c h => by
    unfold getH at h ⊢
    by_cases hg : (getM c).2.2 = 0
    · rw [if_neg (by simp [hg])] at h ⊢
      split at h
      · simp at h
      · rename_i hc; rw [if_neg hc]; dsimp only; rw [get_ok (get_valid hg)]; exact (get_valid hg).num
    · have hg' : (getM c).2.2 ≠ 0 := hg
      rw [if_pos hg'] at h; exact absurd h hg
  rcases get_err a with ha | ⟨ha1, ha2⟩
  · rcases get_err b with hb | ⟨hb1, hb2⟩
    · simp [ha, hb]
    · by_cases hb : (getH b).2.2 = 0
      · simp [ha, hb]
      · have := pos a ha
        simp [ha, hb, hb1]
  · by_cases ha : (getH a).2.2 = 0
    · have := pos a ha; omega
    · have hb : (getH b).2.2 = 0 := Decidable.byContradiction fun e => hc ⟨ha, e⟩
      have := pos b hb
      rw [if_pos (.inl ha), if_pos (by omega)]
end Go.Cx
