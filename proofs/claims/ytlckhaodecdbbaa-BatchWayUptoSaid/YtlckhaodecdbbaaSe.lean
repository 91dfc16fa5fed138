/- Numbers as bytes, rests, sealed blocks: plain laws. No program in sight. -/
import Derived.Test.YtlckhaodecdbbaaDkM
set_option linter.unusedVariables false
set_option linter.unusedSimpArgs false
namespace Go.Cx
/-! ### Numbers as bytes -/
def le : Nat → Nat → Blk
  | 0, _ => []
  | k + 1, n => UInt8.ofNat n :: le k (n / 256)
def ofLe : Blk → Nat
  | [] => 0
  | b :: r => b.toNat + 256 * ofLe r
@[simp] theorem length_le (k n : Nat) : (le k n).length = k := by
  induction k generalizing n with
  | zero => rfl
  | succ k ih => simp [le, ih]
theorem ofLe_lt (b : Blk) : ofLe b < 256 ^ b.length := by
  induction b with
  | nil => simp [ofLe]
  | cons x b ih =>
    have := x.toNat_lt
    simp only [ofLe, List.length_cons, Nat.pow_succ]
    omega
theorem ofLe_le (k n : Nat) (h : n < 256 ^ k) : ofLe (le k n) = n := by
  induction k generalizing n with
  | zero => simp [le, ofLe] at *; omega
  | succ k ih =>
    rw [Nat.pow_succ] at h
    simp only [le, ofLe]
    rw [ih (n / 256) (by omega)]
    simp; omega
theorem le_ofLe (b : Blk) : le b.length (ofLe b) = b := by
  induction b with
  | nil => rfl
  | cons x b ih =>
    have := x.toNat_lt
    simp only [ofLe, List.length_cons, le]
    have h1 : (x.toNat + 256 * ofLe b) / 256 = ofLe b := by omega
    rw [h1, ih]
    congr 1
    apply UInt8.toNat_inj.1
    simp
theorem ofLe_inj {a b : Blk} (h : a.length = b.length) (e : ofLe a = ofLe b) : a = b := by
  rw [← le_ofLe a, ← le_ofLe b, h, e]
theorem ofLe_append (a b : Blk) : ofLe (a ++ b) = ofLe a + 256 ^ a.length * ofLe b := by
  induction a with
  | nil => simp [ofLe]
  | cons x a ih => simp only [List.cons_append, ofLe, ih, List.length_cons, Nat.pow_succ]; rw [Nat.mul_add, Nat.mul_comm (256 ^ a.length) 256, Nat.mul_assoc, Nat.add_assoc]
theorem le_get (k n i : Nat) (h : i < k) : (le k n)[i]? = some (UInt8.ofNat (n / 256 ^ i)) := by
  induction k generalizing n i with
  | zero => omega
  | succ k ih =>
    cases i with
    | zero => simp [le]
    | succ i =>
      simp only [le, List.getElem?_cons_succ]
      rw [ih _ _ (by omega), Nat.pow_succ, Nat.div_div_eq_div_mul, Nat.mul_comm 256]
theorem le_snoc (k n : Nat) : le (k + 1) n = le k n ++ [UInt8.ofNat (n / 256 ^ k)] := by
  induction k generalizing n with
  | zero => simp [le]
  | succ k ih =>
    rw [show le (k + 1 + 1) n = UInt8.ofNat n :: le (k + 1) (n / 256) from rfl, ih]
    simp only [le, List.cons_append]
    rw [Nat.pow_succ, Nat.div_div_eq_div_mul, Nat.mul_comm 256]

/-! ### Rests -/
def poly : Nat := 0x82f63b78
def bit1 (r : Nat) : Nat := (r >>> 1) ^^^ (if r.testBit 0 then poly else 0)
def bits : Nat → Nat → Nat
  | 0, r => r
  | k + 1, r => bits k (bit1 r)
def intoM (r : Nat) (c : UInt8) : Nat := bits 8 (r ^^^ c.toNat)
def restM (r : Nat) (b : Blk) : Nat := b.foldl intoM r
def crcM (b : Blk) : Nat := restM 4294967295 b ^^^ 4294967295
theorem xor4 (a b c d : Nat) : (a ^^^ b) ^^^ (c ^^^ d) = (a ^^^ c) ^^^ (b ^^^ d) := by
  rw [Nat.xor_assoc, ← Nat.xor_assoc b, Nat.xor_comm b c, Nat.xor_assoc c, ← Nat.xor_assoc]
theorem bit1_xor (x y : Nat) : bit1 (x ^^^ y) = bit1 x ^^^ bit1 y := by
  unfold bit1
  rw [Nat.shiftRight_xor_distrib, Nat.testBit_xor, xor4]
  congr 1
  cases x.testBit 0 <;> cases y.testBit 0 <;> simp
theorem bits_xor (k x y : Nat) : bits k (x ^^^ y) = bits k x ^^^ bits k y := by
  induction k generalizing x y with
  | zero => rfl
  | succ k ih => simp only [bits]; rw [bit1_xor, ih]
theorem bits_add (j k r : Nat) : bits (j + k) r = bits k (bits j r) := by
  induction j generalizing r with
  | zero => simp [bits]
  | succ j ih => rw [Nat.succ_add]; simp only [bits]; exact ih _
theorem bit1_lt {r : Nat} (h : r < 2 ^ 32) : bit1 r < 2 ^ 32 := by
  unfold bit1
  refine Nat.xor_lt_two_pow ?_ ?_
  · rw [Nat.shiftRight_eq_div_pow]; omega
  · split <;> decide
theorem bits_lt (k : Nat) {r : Nat} (h : r < 2 ^ 32) : bits k r < 2 ^ 32 := by
  induction k generalizing r with
  | zero => exact h
  | succ k ih => exact ih (bit1_lt h)
theorem xor_zero {a b : Nat} (e : a ^^^ b = 0) : a = b := by
  have := congrArg (· ^^^ b) e
  simpa [Nat.xor_assoc] using this
theorem bit1_zero {r : Nat} (h : r < 2 ^ 32) (e : bit1 r = 0) : r = 0 := by
  unfold bit1 at e
  have e' := xor_zero e
  rw [Nat.shiftRight_eq_div_pow, Nat.testBit_zero] at e'
  simp only [poly, decide_eq_true_eq] at e'
  split at e' <;> omega
theorem bits_zero (k : Nat) {r : Nat} (h : r < 2 ^ 32) (e : bits k r = 0) : r = 0 := by
  induction k generalizing r with
  | zero => exact e
  | succ k ih => exact bit1_zero h (ih (bit1_lt h) e)
theorem bits_inj (k : Nat) {a b : Nat} (ha : a < 2 ^ 32) (hb : b < 2 ^ 32) (e : bits k a = bits k b) : a = b := by
  have := bits_zero k (r := a ^^^ b) (Nat.xor_lt_two_pow ha hb) (by rw [bits_xor, e, Nat.xor_self])
  exact xor_zero this
theorem bit1_dbl (h : Nat) : bit1 (h <<< 1) = h := by
  unfold bit1
  simp [Nat.shiftLeft_eq, Nat.shiftRight_eq_div_pow, Nat.testBit_zero]
theorem bits_shl (k h : Nat) : bits k (h <<< k) = h := by
  induction k generalizing h with
  | zero => rfl
  | succ k ih => rw [show h <<< (k + 1) = (h <<< k) <<< 1 from by rw [← Nat.shiftLeft_add]]; simp only [bits]; rw [bit1_dbl, ih]
theorem nib_split (r : Nat) : r = ((r >>> 4) <<< 4) ^^^ (r &&& 15) := by
  apply Nat.eq_of_testBit_eq
  intro i
  rw [Nat.testBit_xor, Nat.testBit_shiftLeft, Nat.testBit_and, show (15 : Nat) = 2 ^ 4 - 1 from rfl, Nat.testBit_two_pow_sub_one, Nat.testBit_shiftRight]
  by_cases h : i < 4
  · simp [h]; have : ¬ 4 ≤ i := by omega
    simp [this]
  · simp [h]; rw [show 4 + (i - 4) = i by omega]; have h4 : 4 ≤ i := by omega
    simp [h4]
def four (j : Nat) : Nat := bits 4 j
theorem bits4 (r : Nat) : bits 4 r = (r >>> 4) ^^^ four (r &&& 15) := by
  conv => lhs; rw [nib_split r]
  rw [bits_xor, bits_shl]; rfl
/-- Half a byte goes into a rest. -/
def nibM (r h : Nat) : Nat := (r >>> 4) ^^^ four ((r &&& 15) ^^^ h)
theorem nib_bits {r h : Nat} (hh : h < 16) : bits 4 (r ^^^ h) = nibM r h := by
  have h0 : h >>> 4 = 0 := by rw [Nat.shiftRight_eq_div_pow]; omega
  have h1 : h &&& 15 = h := by rw [show (15 : Nat) = 2 ^ 4 - 1 from rfl, Nat.and_two_pow_sub_one_eq_mod]; omega
  rw [bits4, nibM, Nat.shiftRight_xor_distrib, h0, Nat.xor_zero, Nat.and_xor_distrib_right, h1]
theorem into_nib (r : Nat) (c : UInt8) : intoM r c = nibM (nibM r (c.toNat &&& 15)) (c.toNat >>> 4) := by
  have hc := c.toNat_lt
  have h1 : c.toNat &&& 15 < 16 := by rw [show (15 : Nat) = 2 ^ 4 - 1 from rfl, Nat.and_two_pow_sub_one_eq_mod]; omega
  have h2 : c.toNat >>> 4 < 16 := by rw [Nat.shiftRight_eq_div_pow]; omega
  rw [intoM, show (8 : Nat) = 4 + 4 from rfl, bits_add, ← nib_bits h2, ← nib_bits h1]
  congr 1
  conv => lhs; rw [nib_split c.toNat]
  rw [Nat.xor_comm (_ <<< 4), ← Nat.xor_assoc, bits_xor, bits_shl]
theorem nib_lt {r h : Nat} (hr : r < 2 ^ 32) (hh : h < 16) : nibM r h < 2 ^ 32 := by
  rw [← nib_bits hh]; exact bits_lt 4 (Nat.xor_lt_two_pow hr (by omega))
theorem into_lt {r : Nat} (hr : r < 2 ^ 32) (c : UInt8) : intoM r c < 2 ^ 32 := by
  have := c.toNat_lt
  exact bits_lt 8 (Nat.xor_lt_two_pow hr (by omega))
theorem rest_lt {r : Nat} (hr : r < 2 ^ 32) (b : Blk) : restM r b < 2 ^ 32 := by
  induction b generalizing r with
  | nil => exact hr
  | cons c b ih => exact ih (into_lt hr c)
theorem crc_lt (b : Blk) : crcM b < 2 ^ 32 := Nat.xor_lt_two_pow (rest_lt (by decide) b) (by decide)
theorem into_inj {r s : Nat} (hr : r < 2 ^ 32) (hs : s < 2 ^ 32) {c d : UInt8} (e : intoM r c = intoM s d) : r ^^^ c.toNat = s ^^^ d.toNat := by
  have := c.toNat_lt
  have := d.toNat_lt
  exact bits_inj 8 (Nat.xor_lt_two_pow hr (by omega)) (Nat.xor_lt_two_pow hs (by omega)) e
theorem xor_rc {a b c : Nat} (e : a ^^^ c = b ^^^ c) : a = b := by
  have := congrArg (· ^^^ c) e
  simpa [Nat.xor_assoc] using this
theorem xor_lc {a b c : Nat} (e : c ^^^ a = c ^^^ b) : a = b := xor_rc (c := c) (by rw [Nat.xor_comm a, Nat.xor_comm b]; exact e)
theorem rest_inj {r s : Nat} (hr : r < 2 ^ 32) (hs : s < 2 ^ 32) (b : Blk) (e : restM r b = restM s b) : r = s := by
  induction b generalizing r s with
  | nil => exact e
  | cons c b ih => exact xor_rc (into_inj hr hs (ih (into_lt hr c) (into_lt hs c) e))
theorem rest_append (r : Nat) (a b : Blk) : restM r (a ++ b) = restM (restM r a) b := List.foldl_append
/-- A byte that is another one is seen. -/
theorem crc_one (a b : Blk) (c d : UInt8) (e : crcM (a ++ c :: b) = crcM (a ++ d :: b)) : c = d := by
  unfold crcM at e
  have h := xor_rc e
  rw [rest_append, rest_append] at h
  have hr : restM 4294967295 a < 2 ^ 32 := rest_lt (by decide) a
  have h1 := rest_inj (into_lt hr c) (into_lt hr d) b h
  exact UInt8.toNat_inj.1 (xor_lc (into_inj hr hr h1))
end Go.Cx
namespace Go.Cx
/-! ### Blocks that were written as a whole -/
def top : Nat := 18446744073709551615
def padB (k : Nat) (b : Blk) : Blk := b ++ List.replicate (k - b.length) 0
def frontB (n : Nat) (body : Blk) : Blk := le 8 n ++ padB 108 body
def sealB (n : Nat) (body : Blk) : Blk := frontB n body ++ (le 4 (crcM (frontB n body)) ++ le 8 (top - n))
/-- It is one. -/
structure Valid (b : Blk) : Prop where
  num : 1 ≤ ofLe (b.take 8)
  fin : ofLe (b.drop 120) = top - ofLe (b.take 8)
  sum : ofLe ((b.drop 116).take 4) = crcM (b.take 116)
def putM (n : Nat) (body : Blk) : Blk × Int := if n = 0 then (zblk, 2) else if 108 < body.length then (zblk, 3) else (sealB n body, 0)
def getM (b : Blk) : Nat × Blk × Int :=
  if ofLe (b.take 8) < 1 ∨ ofLe (b.drop 120) ≠ top - ofLe (b.take 8) then (0, [], 5)
  else if ofLe ((b.drop 116).take 4) ≠ crcM (b.take 116) then (0, [], 6) else (ofLe (b.take 8), (b.drop 8).take 108, 0)
theorem get_ok {b : Blk} (h : Valid b) : getM b = (ofLe (b.take 8), (b.drop 8).take 108, 0) := by
  unfold getM
  rw [if_neg (by have := h.num; have := h.fin; omega), if_neg (by simp [h.sum])]
theorem get_valid {b : Blk} (h : (getM b).2.2 = 0) : Valid b := by
  unfold getM at h
  split at h
  · simp at h
  · split at h
    · simp at h
    · exact ⟨by omega, by omega, by omega⟩
theorem get_bad {b : Blk} (h : ¬ Valid b) : (getM b).1 = 0 ∧ (getM b).2.1 = [] ∧ (getM b).2.2 ≠ 0 := by
  unfold getM
  split
  · exact ⟨rfl, rfl, by decide⟩
  · split
    · exact ⟨rfl, rfl, by decide⟩
    · exact absurd ⟨by omega, by omega, by omega⟩ h
theorem padB_len {k : Nat} {b : Blk} (h : b.length ≤ k) : (padB k b).length = k := by simp [padB]; omega
theorem front_len {n : Nat} {b : Blk} (h : b.length ≤ 108) : (frontB n b).length = 116 := by simp [frontB, padB_len h]
theorem sealB_WB {n : Nat} {b : Blk} (h : b.length ≤ 108) : WB (sealB n b) := by simp [WB, sealB, front_len h]
theorem sealB_8 (n : Nat) (b : Blk) : (sealB n b).take 8 = le 8 n := by simp [sealB, frontB]
theorem sealB_116 {n : Nat} {b : Blk} (h : b.length ≤ 108) : (sealB n b).take 116 = frontB n b := by
  rw [sealB, List.take_append_of_le_length (by rw [front_len h]; omega), List.take_of_length_le (by rw [front_len h]; omega)]
theorem sealB_d116 {n : Nat} {b : Blk} (h : b.length ≤ 108) : (sealB n b).drop 116 = le 4 (crcM (frontB n b)) ++ le 8 (top - n) := by
  rw [sealB, List.drop_append, List.drop_of_length_le (by rw [front_len h]; omega), front_len h]; simp
theorem sealB_120 {n : Nat} {b : Blk} (h : b.length ≤ 108) : (sealB n b).drop 120 = le 8 (top - n) := by
  rw [show 120 = 116 + 4 from rfl, ← List.drop_drop, sealB_d116 h, List.drop_append]; simp
theorem sealB_body {n : Nat} {b : Blk} (h : b.length ≤ 108) : ((sealB n b).drop 8).take 108 = padB 108 b := by
  have h1 : ((sealB n b).take 116).drop 8 = ((sealB n b).drop 8).take 108 := by rw [List.drop_take]
  rw [← h1, sealB_116 h, frontB, List.drop_append]; simp
theorem ofLe8 {n : Nat} (h : n ≤ top) : ofLe (le 8 n) = n := ofLe_le 8 n (by simp only [top] at h; omega)
theorem valid_sealB {n : Nat} {b : Blk} (h1 : 1 ≤ n) (h2 : n ≤ top) (h : b.length ≤ 108) : Valid (sealB n b) := by
  refine ⟨?_, ?_, ?_⟩
  · rw [sealB_8, ofLe8 h2]; exact h1
  · rw [sealB_8, sealB_120 h, ofLe8 h2, ofLe8 (by omega)]
  · rw [sealB_d116 h, sealB_116 h, List.take_append_of_le_length (by simp), List.take_of_length_le (by simp)]
    exact ofLe_le 4 _ (crc_lt _)
theorem get_sealB {n : Nat} {b : Blk} (h1 : 1 ≤ n) (h2 : n ≤ top) (h : b.length ≤ 108) : getM (sealB n b) = (n, padB 108 b, 0) := by
  rw [get_ok (valid_sealB h1 h2 h), sealB_8, sealB_body h, ofLe8 h2]
/-- Whoever fits is sealed. -/
theorem valid_eq {b : Blk} (w : WB b) (v : Valid b) : b = sealB (ofLe (b.take 8)) ((b.drop 8).take 108) := by
  have w' : b.length = 128 := w
  have e1 : le 8 (ofLe (b.take 8)) = b.take 8 := by have := le_ofLe (b.take 8); rwa [show (b.take 8).length = 8 by simp; omega] at this
  have e2 : padB 108 ((b.drop 8).take 108) = (b.drop 8).take 108 := by simp [padB, w']
  have e3 : frontB (ofLe (b.take 8)) ((b.drop 8).take 108) = b.take 116 := by
    rw [frontB, e1, e2, show 116 = 8 + 108 from rfl, List.take_add]
  have e4 : le 4 (crcM (b.take 116)) = (b.drop 116).take 4 := by
    rw [← v.sum]; have := le_ofLe ((b.drop 116).take 4); rwa [show ((b.drop 116).take 4).length = 4 by simp; omega] at this
  have e5 : le 8 (top - ofLe (b.take 8)) = b.drop 120 := by
    rw [← v.fin]; have := le_ofLe (b.drop 120); rwa [show (b.drop 120).length = 8 by simp; omega] at this
  rw [sealB, e3, e4, e5, show 120 = 116 + 4 from rfl, ← List.drop_drop, List.take_append_drop, List.take_append_drop]
theorem valid_top {b : Blk} (w : WB b) : ofLe (b.take 8) ≤ top := by
  have h := ofLe_lt (b.take 8)
  have w' : b.length = 128 := w
  rw [show (b.take 8).length = 8 by simp; omega] at h
  simp only [top]; omega
/-- With a byte changed it is none any more. -/
theorem valid_set {b : Blk} (w : WB b) (v : Valid b) (p : Nat) (hp : p < 128) (y : UInt8) (v' : Valid (b.set p y)) : b.set p y = b := by
  have w' : b.length = 128 := w
  have t1 := valid_top w
  have t2 := valid_top (b := b.set p y) (by simp [WB, w'])
  have key : ∀ (k m : Nat), k ≤ p → p < k + m → ((b.set p y).drop k).take m = (b.drop k).take m → b.set p y = b := fun k m h1 h2 e => by
    have := congrArg (fun l : List UInt8 => l[p - k]?) e
    simp only [List.getElem?_take, List.getElem?_drop, show k + (p - k) = p by omega, if_pos (show p - k < m by omega)] at this
    rw [List.getElem?_set_self (by omega), List.getElem?_eq_getElem (by omega)] at this
    have hy : y = b[p] := by simpa using this
    rw [hy]; simp
  by_cases h8 : p < 8
  · have e : (b.set p y).drop 120 = b.drop 120 := by rw [List.drop_set, if_pos (by omega)]
    have h1 := v.fin
    have h2 := v'.fin
    rw [e] at h2
    have e2 : (b.set p y).take 8 = b.take 8 := ofLe_inj (by simp) (by simp only [top] at *; omega)
    exact key 0 8 (Nat.zero_le _) (by omega) (by simpa using e2)
  have e8 : (b.set p y).take 8 = b.take 8 := by rw [List.take_set, List.set_eq_of_length_le (by simp; omega)]
  by_cases h116 : p < 116
  · have e : ((b.set p y).drop 116).take 4 = (b.drop 116).take 4 := by rw [List.drop_set, if_pos (by omega)]
    have h1 := v.sum
    have h2 := v'.sum
    rw [e, h1, List.take_set] at h2
    have hl : p < (b.take 116).length := by simp; omega
    have hg : (b.take 116)[p] = b[p] := by simp
    generalize b.take 116 = u at h2 hl hg
    have e3 : u.set p y = u.take p ++ y :: u.drop (p + 1) := by rw [List.set_eq_take_append_cons_drop, if_pos hl]
    have e4 : u = u.take p ++ u[p] :: u.drop (p + 1) := by simp
    rw [e3] at h2
    have h3 := crc_one (u.take p) (u.drop (p + 1)) u[p] y (by rw [← e4]; exact h2)
    have hy : y = b[p] := by rw [← h3, hg]
    rw [hy]; simp
  by_cases h120 : p < 120
  · have e : (b.set p y).take 116 = b.take 116 := by rw [List.take_set, List.set_eq_of_length_le (by simp; omega)]
    have h1 := v.sum
    have h2 := v'.sum
    rw [e, ← h1] at h2
    exact key 116 4 (by omega) (by omega) (ofLe_inj (by simp) h2)
  · have h1 := v.fin
    have h2 := v'.fin
    rw [e8, ← h1] at h2
    have e2 : (b.set p y).drop 120 = b.drop 120 := ofLe_inj (by simp) h2
    exact key 120 8 (by omega) (by omega) (by rw [e2])

/-! ### Blocks of which only a beginning was written -/
def swB (w : Nat × Blk) : Blk := sealB w.1 w.2
/-- What may stand at a place: of the blocks ws, over 0s, the later ones further ahead. -/
structure Begun (lo : Nat) (ws : List (Nat × Blk)) (b : Blk) : Prop where
  wb : WB b
  base : lo ≤ 1152921504606846976
  num : ∀ w ∈ ws, lo < w.1 ∧ w.1 ≤ lo + 60 ∧ w.2.length ≤ 108
  incr : ws.Pairwise fun u v => u.1 < v.1
  src : ∃ s : Nat → Nat, (∀ p q, p ≤ q → s q ≤ s p) ∧ (∀ p, s p ≤ ws.length) ∧ ∀ p, p < 128 → b[p]? = ((zblk :: ws.map swB).getD (s p) [])[p]?
theorem begun_nil {lo : Nat} (h : lo ≤ 1152921504606846976) : Begun lo [] zblk :=
  ⟨WB_z, h, by simp, .nil, fun _ => 0, by simp, by simp, by simp⟩
theorem torn_len {a b : Blk} {n : Nat} (ha : WB a) (hb : WB b) : WB (torn a b n) := by unfold WB torn at *; simp; omega
theorem begun_torn {lo : Nat} {ws : List (Nat × Blk)} {b : Blk} (h : Begun lo ws b) (w : Nat × Blk) (hw : lo < w.1 ∧ w.1 ≤ lo + 60 ∧ w.2.length ≤ 108) (hi : ∀ u ∈ ws, u.1 < w.1) (n : Nat) : Begun lo (ws ++ [w]) (torn b (swB w) n) := by
  obtain ⟨s, h1, h2, h3⟩ := h.src
  have hb : b.length = 128 := h.wb
  have hs : (swB w).length = 128 := sealB_WB hw.2.2
  refine ⟨torn_len h.wb hs, h.base, fun u hu => ?_, ?_, fun p => if p < n then ws.length + 1 else s p, fun p q hpq => ?_, fun p => ?_, fun p hp => ?_⟩
  · simp only [List.mem_append, List.mem_singleton] at hu
    rcases hu with hu | rfl
    · exact h.num u hu
    · exact hw
  · rw [List.pairwise_append]
    exact ⟨h.incr, by simp, fun u hu v hv => by simp only [List.mem_singleton] at hv; subst hv; exact hi u hu⟩
  · have := h1 p q hpq
    have := h2 p
    have := h2 q
    dsimp only
    split <;> split <;> omega
  · have := h2 p
    simp only [List.length_append, List.length_singleton]
    split <;> omega
  · dsimp only
    unfold torn
    by_cases hn : p < n
    · rw [if_pos hn, List.getElem?_append_left (by simp; omega), List.getElem?_take, if_pos hn]
      simp [List.getD_eq_getElem?_getD]
    · rw [if_neg hn, List.getElem?_append_right (by simp; omega), List.getElem?_drop]
      have e : n + (p - (List.take n (swB w)).length) = p := by simp; omega
      rw [e, h3 p hp]
      have := h2 p
      simp only [List.getD_eq_getElem?_getD, List.map_append, List.map_cons, List.map_nil, ← List.cons_append]
      rw [List.getElem?_append_left (by simp; omega)]
theorem swB_0 (w : Nat × Blk) : (swB w)[0]? = some (UInt8.ofNat w.1) := by
  have : ((swB w).take 8)[0]? = some (UInt8.ofNat w.1) := by rw [swB, sealB_8]; rfl
  rw [List.getElem?_take] at this; simpa using this
theorem swB_7 (w : Nat × Blk) : (swB w)[7]? = some (UInt8.ofNat (w.1 / 256 ^ 7)) := by
  have : ((swB w).take 8)[7]? = some (UInt8.ofNat (w.1 / 256 ^ 7)) := by rw [swB, sealB_8, le_get _ _ _ (by omega)]
  rw [List.getElem?_take] at this; simpa using this
theorem swB_120 {w : Nat × Blk} (h : w.2.length ≤ 108) : (swB w)[120]? = some (UInt8.ofNat (top - w.1)) := by
  have : ((swB w).drop 120)[0]? = some (UInt8.ofNat (top - w.1)) := by rw [swB, sealB_120 h]; rfl
  rw [List.getElem?_drop] at this; exact this
theorem begun_valid {lo : Nat} {ws : List (Nat × Blk)} {b : Blk} (h : Begun lo ws b) (v : Valid b) : b ∈ ws.map swB := by
  obtain ⟨s, h1, h2, h3⟩ := h.src
  have hb : b.length = 128 := h.wb
  have hlo := h.base
  have e8 : le 8 (ofLe (b.take 8)) = b.take 8 := by have := le_ofLe (b.take 8); rwa [show (b.take 8).length = 8 by simp; omega] at this
  have e120 : le 8 (top - ofLe (b.take 8)) = b.drop 120 := by
    rw [← v.fin]; have := le_ofLe (b.drop 120); rwa [show (b.drop 120).length = 8 by simp; omega] at this
  have ht := valid_top h.wb
  generalize hn : ofLe (b.take 8) = n at e8 e120 ht
  have b0 : b[0]? = some (UInt8.ofNat n) := by
    have : (b.take 8)[0]? = some (UInt8.ofNat n) := by rw [← e8]; rfl
    rw [List.getElem?_take] at this; simpa using this
  have b7 : b[7]? = some (UInt8.ofNat (n / 256 ^ 7)) := by
    have : (b.take 8)[7]? = some (UInt8.ofNat (n / 256 ^ 7)) := by rw [← e8, le_get _ _ _ (by omega)]
    rw [List.getElem?_take] at this; simpa using this
  have b120 : b[120]? = some (UInt8.ofNat (top - n)) := by
    have : (b.drop 120)[0]? = some (UInt8.ofNat (top - n)) := by rw [← e120]; rfl
    rw [List.getElem?_drop] at this; exact this
  have b127 : b[127]? = some (UInt8.ofNat ((top - n) / 256 ^ 7)) := by
    have : (b.drop 120)[7]? = some (UInt8.ofNat ((top - n) / 256 ^ 7)) := by rw [← e120, le_get _ _ _ (by omega)]
    rw [List.getElem?_drop] at this; exact this
  have at_ : ∀ p, p < 128 → s p ≠ 0 → ∃ (hk : s p - 1 < ws.length), b[p]? = (swB ws[s p - 1])[p]? := fun p hp h0 => by
    have := h2 p
    refine ⟨by omega, ?_⟩
    rw [h3 p hp]
    obtain ⟨m, hm⟩ : ∃ m, s p = m + 1 := ⟨s p - 1, by omega⟩
    simp only [hm, List.getD_eq_getElem?_getD, List.getElem?_cons_succ, Nat.add_sub_cancel]
    have hml : m < ws.length := by omega
    simp [hml]
  have zero : ∀ p, p < 128 → s p = 0 → b[p]? = some 0 := fun p hp h0 => by
    rw [h3 p hp, h0, List.getD_cons_zero, zblk, List.getElem?_replicate, if_pos hp]
  have u8 : ∀ {x y : Nat}, some (UInt8.ofNat x) = some (UInt8.ofNat y) → x % 256 = y % 256 := fun {x y} e => by
    have := congrArg UInt8.toNat (Option.some.inj e)
    simpa using this
  have z8 : ∀ {x : Nat}, some (UInt8.ofNat x) = some 0 → x % 256 = 0 := fun {x} e => by
    have := congrArg UInt8.toNat (Option.some.inj e)
    simpa using this
  have n127 : s 127 ≠ 0 := fun h0 => by
    have q := zero 127 (by omega) h0
    rw [b127] at q
    have q1 := z8 q
    by_cases h7 : s 7 = 0
    · have q2 := zero 7 (by omega) h7
      rw [b7] at q2
      have q3 := z8 q2
      simp only [top] at *; omega
    · obtain ⟨hk, q2⟩ := at_ 7 (by omega) h7
      rw [b7, swB_7] at q2
      have q3 := u8 q2
      have := (h.num _ (List.getElem_mem hk)).2.1
      simp only [top] at *; omega
  have m1 := h1 120 127 (by omega)
  have m2 := h1 0 120 (by omega)
  obtain ⟨hK, qK⟩ := at_ 120 (by omega) (by omega)
  obtain ⟨hJ, qJ⟩ := at_ 0 (by omega) (by omega)
  have nK := h.num _ (List.getElem_mem hK)
  have nJ := h.num _ (List.getElem_mem hJ)
  rw [b120, swB_120 nK.2.2] at qK
  rw [b0, swB_0] at qJ
  have k1 := u8 qK
  have k2 := u8 qJ
  have eN : ws[s 0 - 1].1 = ws[s 120 - 1].1 := by simp only [top] at *; omega
  have eJ : s 0 = s 120 := by
    rcases Nat.lt_or_ge (s 120) (s 0) with hlt | hge
    · have := (List.pairwise_iff_getElem.1 h.incr) (s 120 - 1) (s 0 - 1) hK hJ (by omega)
      omega
    · omega
  have e120' : b.take 120 = (swB ws[s 0 - 1]).take 120 := by
    apply List.ext_getElem?
    intro p
    rw [List.getElem?_take, List.getElem?_take]
    split
    · rename_i hp
      have a1 := h1 0 p (by omega)
      have a2 := h1 p 120 (by omega)
      obtain ⟨_, q⟩ := at_ p (by omega) (by omega)
      rw [q]
      have : s p = s 0 := by omega
      simp only [this]
    · rfl
  have hnn : n = ws[s 0 - 1].1 := by
    have : (b.take 120).take 8 = ((swB ws[s 0 - 1]).take 120).take 8 := by rw [e120']
    rw [List.take_take, List.take_take] at this
    have q : b.take 8 = le 8 ws[s 0 - 1].1 := by simpa [swB, sealB_8] using this
    rw [← hn, q, ofLe8 (by simp only [top]; omega)]
  have hd : b.drop 120 = (swB ws[s 0 - 1]).drop 120 := by rw [← e120, hnn, swB, sealB_120 nJ.2.2]
  have : b = swB ws[s 0 - 1] := by rw [← List.take_append_drop 120 b, e120', hd, List.take_append_drop]
  rw [this]
  exact List.mem_map.2 ⟨_, List.getElem_mem hJ, rfl⟩
theorem valid_of_mem {lo : Nat} {ws : List (Nat × Blk)} {b : Blk} (h : Begun lo ws b) {c : Blk} (hc : c ∈ ws.map swB) : Valid c := by
  obtain ⟨w, hw, rfl⟩ := List.mem_map.1 hc
  have := h.num w hw
  have := h.base
  exact valid_sealB (by omega) (by simp only [top]; omega) (h.num w hw).2.2
end Go.Cx
