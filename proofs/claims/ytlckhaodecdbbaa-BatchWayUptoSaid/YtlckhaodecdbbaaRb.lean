/- What a reading tells of bytes, and of rows of bytes. No program in sight. -/
import Derived.Test.YtlckhaodecdbbaaOp
import Derived.Test.YtlckhaodecdbbaaSe
import Derived.SliceStrings
import Derived.SizedLaws
import Derived.Deep.Slices
set_option linter.unusedVariables false
set_option linter.unusedSimpArgs false
namespace Go.Cx
def byteC (z : UInt8) : List Value := [.int .u8 (z.toNat : Int)]
theorem rows_bytes (l : Blk) : rows byteC l = cb l := by
  induction l with
  | nil => rfl
  | cons x l ih => simp only [rows, List.map_cons, List.flatten_cons] at ih ⊢; rw [ih]; rfl
/-- A slice of bytes that is handed in. -/
structure SlB where
  a : Option Addr
  b : Blk
  c : Nat
def SlB.cells (s : SlB) : List Value := [.slice s.a s.b.length s.c]
structure SlB.ok (x : PH) (s : SlB) : Prop where
  nil : s.a = none → s.b = [] ∧ s.c = 0
  le : s.b.length ≤ s.c
  max : s.c ≤ maxLen
  r : rdx s.a s.b.length (cb s.b) x
structure SlI where
  a : Option Addr
  l : List Int
  c : Nat
def SlI.cells (s : SlI) : List Value := [.slice s.a s.l.length s.c]
structure SlI.ok (x : PH) (s : SlI) : Prop where
  le : s.l.length ≤ s.c
  max : s.c ≤ maxLen
  rng : ∀ z ∈ s.l, -9223372036854775808 ≤ z ∧ z ≤ 9223372036854775807
  r : rdx s.a s.l.length (s.l.map (Value.int .i64)) x
section
variable {H : Type} {enc : TypeId × Value → H} {P : Program} {w : World} {base : Nat} {spare : Nat → Bool} {held : Bool}
theorem rec_byte {t : TypeId} (ht : P.underlying t = some (.int .u8)) : Rec enc P w base spare held t (fun _ : UInt8 => True) byteC := fun n cs x h => by
  obtain ⟨z, hw, rfl⟩ := rec_u8 ht n cs x h
  refine ⟨UInt8.ofNat z, trivial, ?_⟩
  simp [byteC]; omega
theorem rec_bytes {t e : TypeId} (ht : P.underlying t = some (.slice e)) (he : P.underlying e = some (.int .u8)) (hc : P.cellsOf e = 1) : Rec enc P w base spare held t (SlB.ok w.ph) SlB.cells := fun n cs x h => by
  obtain ⟨a, l, cap, rfl, hg, hn, h1, h2, r⟩ := open_rows ht hc (by decide) (rec_byte he) h
  exact ⟨⟨a, l, cap⟩, ⟨hn, h1, h2, by simpa [rows_bytes] using r⟩, rfl⟩
theorem rec_ints {t e : TypeId} (ht : P.underlying t = some (.slice e)) (he : P.underlying e = some (.int .i64)) (hc : P.cellsOf e = 1) : Rec enc P w base spare held t (SlI.ok w.ph) SlI.cells := fun n cs x h => by
  obtain ⟨a, l, cap, rfl, hg, hn, h1, h2, r⟩ := open_rows ht hc (by decide) (rec_int he) h
  exact ⟨⟨a, l, cap⟩, ⟨h1, h2, fun z hz => wf_i64 (hg z hz).1, by simpa [rows_ints] using r⟩, rfl⟩
/-- A slice that is handed in takes no more than there is. -/
theorem sized_rows {ts : List TypeId} {ds : List (DataW H)} (hw : (DataW.weightsEach P ts ds).all (· ≤ reachBytes) = true) {t e : TypeId} {a : Option Addr} {len cap fuel : Nat} {x : DataW H} {ps : List MemPlace} (ht : P.underlying t = some (.slice e))
    (h : DataW.trod enc P w base spare held fuel t [.slice a len cap] = some (x, ps)) (j : Nat) (hts : ts[j]? = some t) (hd : ds[j]? = some x) : len * P.bytesOf e ≤ 140737488351232 := by
  rcases Go.Deep.open_slice ht h with ⟨hc, _⟩ | ⟨a', len', cap', m, n, D, Pl, hc, _, _, _, _, hx, _⟩
  · simp only [List.cons.injEq, Value.slice.injEq, and_true] at hc
    rw [hc.2.1]; simp
  · simp only [List.cons.injEq, Value.slice.injEq, and_true] at hc
    obtain ⟨hx1, _⟩ := Prod.mk.inj hx
    rw [hx1] at hd
    have := sized_slice hw hts hd ht
    rw [hc.2.1]
    have e : reachBytes = 140737488351232 := by decide
    rw [e] at this
    refine Nat.le_trans (Nat.mul_le_mul_right _ ?_) this
    simp
end
end Go.Cx
