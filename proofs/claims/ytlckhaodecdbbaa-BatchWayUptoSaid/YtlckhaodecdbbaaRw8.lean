/- What may be read of rows and changes. -/
import Derived.Test.YtlckhaodecdbbaaRw
set_option linter.unusedVariables false
namespace Go.Cx
section
variable {H : Type} {enc : TypeId × Value → H} {P : Program} {w : World} {base : Nat} {spare : Nat → Bool} {held : Bool}
theorem rec_str {t : TypeId} (ht : P.underlying t = some .string) : Rec enc P w base spare held t (fun b : Blk => b.length ≤ maxLen) (fun b => [sv b]) := fun n cs x h => by
  obtain ⟨s, rfl, _, hs⟩ := DataW.trod_string ht h
  exact ⟨s.data.toList, by simpa using hs, by simp [sv]⟩
theorem rec_boolC {t : TypeId} (ht : P.underlying t = some .bool) : Rec enc P w base spare held t (fun _ : Bool => True) (fun b => [.bool b]) := fun n cs x h => by
  obtain ⟨b, rfl, _⟩ := DataW.trod_bool ht h
  exact ⟨b, trivial, rfl⟩
end
end Go.Cx
namespace Go.Proofs.Ytlckhaodecdbbaa
open Go.Cx
theorem rec_chg {H : Type} {enc : TypeId × Value → H} {w : World} {base : Nat} {spare : Nat → Bool} {held : Bool} :
    Rec enc Try.prog w base spare held 156 (fun r : ChV => r.s.ok w.ph) ChV.cells := fun n cs x h => by
  obtain ⟨hl, m, hf⟩ := trod_fields Try.underlying156 h
  have c1 : Try.prog.cellsOf 9 = 1 := by kernel_rfl
  have c2 : Try.prog.cellsOf 45 = 1 := by kernel_rfl
  have c3 : Try.prog.cellsOf 4 = 1 := by kernel_rfl
  have c4 : Try.prog.cellsOf 156 = 3 := by kernel_rfl
  obtain ⟨y0, e0⟩ : ∃ y, DataW.trod enc Try.prog w base spare held m 9 ((cs.drop 0).take (Try.prog.cellsOf 9)) = some y := hf 0 _ rfl
  rw [c1] at e0
  obtain ⟨y1, e1⟩ : ∃ y, DataW.trod enc Try.prog w base spare held m 45 ((cs.drop 1).take (Try.prog.cellsOf 45)) = some y := hf 1 _ rfl
  rw [c2] at e1
  obtain ⟨y2, e2⟩ : ∃ y, DataW.trod enc Try.prog w base spare held m 4 ((cs.drop 2).take (Try.prog.cellsOf 4)) = some y := hf 2 _ rfl
  rw [c3] at e2
  obtain ⟨a, wa, f0⟩ := rec_str Try.underlying9 _ _ _ e0
  obtain ⟨b, wb, f1⟩ := rec_bytes Try.underlying45 Try.underlying5 (by kernel_rfl) _ _ _ e1
  obtain ⟨c, wc, f2⟩ := rec_boolC Try.underlying4 _ _ _ e2
  refine ⟨⟨a, b, c⟩, wb, ?_⟩
  have h0 : cs = cs.drop 0 := rfl
  have hend : cs.drop (2 + 1) = [] := List.drop_of_length_le (by rw [hl, c4]; omega)
  rw [h0, drop_part cs 0 1 f0, drop_part cs (0 + 1) 1 f1, drop_part cs (0 + 1 + 1) 1 f2, show 0 + 1 + 1 + 1 = 2 + 1 by omega, hend]
  simp [ChV.cells, SlB.cells]
theorem rec_row {H : Type} {enc : TypeId × Value → H} {w : World} {base : Nat} {spare : Nat → Bool} {held : Bool} :
    Rec enc Try.prog w base spare held 105 (fun r : RwV => r.s.ok w.ph) RwV.cells := fun n cs x h => by
  obtain ⟨hl, m, hf⟩ := trod_fields Try.underlying105 h
  have c1 : Try.prog.cellsOf 9 = 1 := by kernel_rfl
  have c2 : Try.prog.cellsOf 45 = 1 := by kernel_rfl
  have c4 : Try.prog.cellsOf 105 = 2 := by kernel_rfl
  obtain ⟨y0, e0⟩ : ∃ y, DataW.trod enc Try.prog w base spare held m 9 ((cs.drop 0).take (Try.prog.cellsOf 9)) = some y := hf 0 _ rfl
  rw [c1] at e0
  obtain ⟨y1, e1⟩ : ∃ y, DataW.trod enc Try.prog w base spare held m 45 ((cs.drop 1).take (Try.prog.cellsOf 45)) = some y := hf 1 _ rfl
  rw [c2] at e1
  obtain ⟨a, wa, f0⟩ := rec_str Try.underlying9 _ _ _ e0
  obtain ⟨b, wb, f1⟩ := rec_bytes Try.underlying45 Try.underlying5 (by kernel_rfl) _ _ _ e1
  refine ⟨⟨a, b⟩, wb, ?_⟩
  have h0 : cs = cs.drop 0 := rfl
  have hend : cs.drop (1 + 1) = [] := List.drop_of_length_le (by rw [hl, c4]; omega)
  rw [h0, drop_part cs 0 1 f0, drop_part cs (0 + 1) 1 f1, show 0 + 1 + 1 = 1 + 1 by omega, hend]
  simp [RwV.cells, SlB.cells]
end Go.Proofs.Ytlckhaodecdbbaa
