/- What may be read of the arguments of layer 4's statements. -/
import Derived.Test.YtlckhaodecdbbaaOp
import Derived.Test.YtlckhaodecdbbaaL4
set_option linter.unusedVariables false
namespace Go.Proofs.Ytlckhaodecdbbaa
open Go.Cx
theorem rec_put {H : Type} {enc : TypeId × Value → H} {w : World} {base : Nat} {spare : Nat → Bool} {held : Bool} :
    Rec enc Try.prog w base spare held 31 (fun p : Nat × Blk => p.1 < 256 ∧ WB p.2) pu :=
  rec_struct2 (s0 := 1) (s1 := 128) Try.underlying31 rfl rfl (by kernel_rfl) (by kernel_rfl) (by kernel_rfl) (rec_u8 Try.underlying5) (rec_block Try.underlying29 Try.underlying5 (by kernel_rfl) (by kernel_rfl))
end Go.Proofs.Ytlckhaodecdbbaa
