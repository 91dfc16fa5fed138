/- What may be read of a head. -/
import Derived.Test.YtlckhaodecdbbaaHd
import Derived.Test.YtlckhaodecdbbaaRb
set_option linter.unusedVariables false
namespace Go.Proofs.Ytlckhaodecdbbaa
open Go.Cx
theorem rec_head {H : Type} {enc : TypeId × Value → H} {w : World} {base : Nat} {spare : Nat → Bool} {held : Bool} :
    Rec enc Try.prog w base spare held 68 HdM.ok hc := fun n cs x h => by
  obtain ⟨hl, m, hf⟩ := trod_fields Try.underlying68 h
  have c1 : Try.prog.cellsOf 5 = 1 := by kernel_rfl
  have c2 : Try.prog.cellsOf 66 = 1 := by kernel_rfl
  have c4 : Try.prog.cellsOf 68 = 3 := by kernel_rfl
  obtain ⟨y0, e0⟩ : ∃ y, DataW.trod enc Try.prog w base spare held m 5 ((cs.drop 0).take (Try.prog.cellsOf 5)) = some y := hf 0 _ rfl
  rw [c1] at e0
  obtain ⟨y1, e1⟩ : ∃ y, DataW.trod enc Try.prog w base spare held m 66 ((cs.drop 1).take (Try.prog.cellsOf 66)) = some y := hf 1 _ rfl
  rw [c2] at e1
  obtain ⟨y2, e2⟩ : ∃ y, DataW.trod enc Try.prog w base spare held m 66 ((cs.drop 2).take (Try.prog.cellsOf 66)) = some y := hf 2 _ rfl
  rw [c2] at e2
  obtain ⟨a, wa, f0⟩ := rec_int Try.underlying5 _ _ _ e0
  obtain ⟨b, wb, f1⟩ := rec_int Try.underlying66 _ _ _ e1
  obtain ⟨c, wc, f2⟩ := rec_int Try.underlying66 _ _ _ e2
  have wa' := wf_u8 wa
  have wb' := wf_u32 wb
  have wc' := wf_u32 wc
  refine ⟨⟨a.toNat, b.toNat, c.toNat⟩, ⟨by dsimp only; omega, by dsimp only; omega, by dsimp only; omega⟩, ?_⟩
  have h0 : cs = cs.drop 0 := rfl
  have hend : cs.drop (2 + 1) = [] := List.drop_of_length_le (by rw [hl, c4]; omega)
  rw [h0, drop_part cs 0 1 f0, drop_part cs (0 + 1) 1 f1, drop_part cs (0 + 1 + 1) 1 f2, show 0 + 1 + 1 + 1 = 2 + 1 by omega, hend]
  simp [hc]; omega
end Go.Proofs.Ytlckhaodecdbbaa
