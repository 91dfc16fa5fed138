/- What may be read of the arguments of layer 4's statements. -/
import Derived.Test.YtlckhaodecdbbaaOp
import Derived.Test.YtlckhaodecdbbaaL4n
set_option linter.unusedVariables false
namespace Go.Proofs.Ytlckhaodecdbbaa
open Go.Cx
theorem rec_put {H : Type} {enc : TypeId × Value → H} {w : World} {base : Nat} {spare : Nat → Bool} {held : Bool} :
    Rec enc Try.prog w base spare held 31 (fun p : Nat × Blk => p.1 < 256 ∧ WB p.2) pu :=
  rec_struct2 (s0 := 1) (s1 := 128) Try.underlying31 rfl rfl (by kernel_rfl) (by kernel_rfl) (by kernel_rfl) (rec_u8 Try.underlying5) (rec_block Try.underlying29 Try.underlying5 (by kernel_rfl) (by kernel_rfl))
/-- An act that is handed in. -/
structure ActV where
  z : Int
  n : Int
  q : Int
  y : Nat
  b : Blk
  a : Option Addr
  l : List Int
  c : Nat
def ActV.cells (A : ActV) : List Value := actc A.z A.n A.q (A.y : Int) A.b A.a A.l.length A.c
structure ActV.ok (w : World) (A : ActV) : Prop where
  n : -9223372036854775808 ≤ A.n ∧ A.n ≤ 9223372036854775807
  q : -9223372036854775808 ≤ A.q ∧ A.q ≤ 9223372036854775807
  z : -9223372036854775808 ≤ A.z ∧ A.z ≤ 9223372036854775807
  y : A.y < 256
  b : WB A.b
  r : rdx A.a A.l.length (A.l.map (Value.int .i64)) w.ph
theorem rec_act {H : Type} {enc : TypeId × Value → H} {w : World} {base : Nat} {spare : Nat → Bool} {held : Bool} :
    Rec enc Try.prog w base spare held 84 (ActV.ok w) ActV.cells := fun n cs x h => by
  obtain ⟨hl, m, hf⟩ := trod_fields Try.underlying84 h
  have c0 : Try.prog.cellsOf 3 = 1 := by kernel_rfl
  have c1 : Try.prog.cellsOf 5 = 1 := by kernel_rfl
  have c2 : Try.prog.cellsOf 29 = 128 := by kernel_rfl
  have c3 : Try.prog.cellsOf 37 = 1 := by kernel_rfl
  have c4 : Try.prog.cellsOf 84 = 133 := by kernel_rfl
  obtain ⟨y0, e0⟩ : ∃ y, DataW.trod enc Try.prog w base spare held m 3 ((cs.drop 0).take (Try.prog.cellsOf 3)) = some y := hf 0 _ rfl
  rw [c0] at e0
  obtain ⟨y1, e1⟩ : ∃ y, DataW.trod enc Try.prog w base spare held m 3 ((cs.drop 1).take (Try.prog.cellsOf 3)) = some y := hf 1 _ rfl
  rw [c0] at e1
  obtain ⟨y2, e2⟩ : ∃ y, DataW.trod enc Try.prog w base spare held m 3 ((cs.drop 2).take (Try.prog.cellsOf 3)) = some y := hf 2 _ rfl
  rw [c0] at e2
  obtain ⟨y3, e3⟩ : ∃ y, DataW.trod enc Try.prog w base spare held m 5 ((cs.drop 3).take (Try.prog.cellsOf 5)) = some y := hf 3 _ rfl
  rw [c1] at e3
  obtain ⟨y4, e4⟩ : ∃ y, DataW.trod enc Try.prog w base spare held m 29 ((cs.drop 4).take (Try.prog.cellsOf 29)) = some y := hf 4 _ rfl
  rw [c2] at e4
  obtain ⟨y5, e5⟩ : ∃ y, DataW.trod enc Try.prog w base spare held m 37 ((cs.drop 132).take (Try.prog.cellsOf 37)) = some y := hf 5 _ rfl
  rw [c3] at e5
  obtain ⟨z, wz, f0⟩ := rec_int Try.underlying3 _ _ _ e0
  obtain ⟨k, wk, f1⟩ := rec_int Try.underlying3 _ _ _ e1
  obtain ⟨q, wq, f2⟩ := rec_int Try.underlying3 _ _ _ e2
  obtain ⟨y, wy, f3⟩ := rec_u8 Try.underlying5 _ _ _ e3
  obtain ⟨b, wb, f4⟩ := rec_block Try.underlying29 Try.underlying5 c2 c1 _ _ _ e4
  obtain ⟨a, l, c, f5, g, -, -, -, r⟩ := open_rows (sz := 1) Try.underlying37 c0 (by decide) (rec_int Try.underlying3) e5
  refine ⟨⟨z, k, q, y, b, a, l, c⟩, ⟨wf_i64 wk, wf_i64 wq, wf_i64 wz, wy, wb, by simpa [rows_ints] using r⟩, ?_⟩
  have h0 : cs = cs.drop 0 := rfl
  have hend : cs.drop (132 + 1) = [] := List.drop_of_length_le (by rw [hl, c4]; omega)
  rw [h0, drop_part cs 0 1 f0, drop_part cs (0 + 1) 1 f1, drop_part cs (0 + 1 + 1) 1 f2, drop_part cs (0 + 1 + 1 + 1) 1 f3, drop_part cs (0 + 1 + 1 + 1 + 1) 128 f4, drop_part cs (0 + 1 + 1 + 1 + 1 + 128) 1 f5, show 0 + 1 + 1 + 1 + 1 + 128 + 1 = 132 + 1 by omega, hend]
  simp [ActV.cells, actc]
end Go.Proofs.Ytlckhaodecdbbaa
