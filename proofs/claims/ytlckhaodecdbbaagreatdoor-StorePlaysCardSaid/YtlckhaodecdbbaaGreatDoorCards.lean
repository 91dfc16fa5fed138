/-
  DERIVED. GIVEN WITH THE SEED: THE CARDS: each row of YtlckhaodecdbbaaGreatDoorRows.lean that lists a variable, with what it lists TIED to the program's text (the seventh form; the later family's looks); each row that meets fmt, with fmt's text TOLD by the authors' own Lean function (tested against real Go, not proved from fmt's source: count such statements apart). THE CARD IS WHAT COUNTS. Prove the row's statement (the work); the ties are given (YtlckhaodecdbbaaGreatDoorTie.lean); close each card by the builder's one call (the guide's Derived/Test/ToyasCard.lean, 'card_holds'). Laid BY PROGRAM, IN A SANDBOX (cutbox-door.mjs). By AI agents, Wed Nov 11 2026. No macro, syntax, notation, axiom, sorry.
-/
import Derived.Test.YtlckhaodecdbbaaGreatDoorRows
import GoSem.ClaimSeven
namespace Go.Proofs.YtlckhaodecdbbaaGreatDoor
namespace Rows

/-- THE TIED CARD OF 'cardexlaw09.StoreCuts'. -/
def storeCutsCard : Claim7 := { stood := { row := storeCutsRow, standIns := [], harness := (true, "47f9976f9f9a005e6d1cf680ec2251c745bc30bfd48463a9d9fa66e447d62048"), looks := true }, kinds := [], alts := [], laidByText := true, laidKinds := [.handle], laidTests := true, laidLooks := .later }
def StoreCutsCardSaid : Prop := Claim7.holds Tryz.pinned (.plain (OpenSpec.ofChange storeCutsSpec)) storeCutsCard

/-- THE TIED CARD OF 'cardexlaw09.StorePlays'. -/
def storePlaysCard : Claim7 := { stood := { row := storePlaysRow, standIns := [], harness := (true, "47f9976f9f9a005e6d1cf680ec2251c745bc30bfd48463a9d9fa66e447d62048"), looks := true }, kinds := [], alts := [], laidByText := true, laidKinds := [.handle], laidTests := true, laidLooks := .later }
def StorePlaysCardSaid : Prop := Claim7.holds Tryz.pinned (.plain (OpenSpec.ofChange storePlaysSpec)) storePlaysCard

/-- THE TIED CARD OF 'cardexlaw09.StoreSame'. -/
def storeSameCard : Claim7 := { stood := { row := storeSameRow, standIns := [], harness := (true, "47f9976f9f9a005e6d1cf680ec2251c745bc30bfd48463a9d9fa66e447d62048"), looks := true }, kinds := [], alts := [], laidByText := true, laidKinds := [.handle], laidTests := true, laidLooks := .later }
def StoreSameCardSaid : Prop := Claim7.holds Tryz.pinned (.plain (OpenSpec.ofChange storeSameSpec)) storeSameCard

/-- THE TIED CARD OF 'cardexlaw09.StoreFresh'. -/
def storeFreshCard : Claim7 := { stood := { row := storeFreshRow, standIns := [], harness := (true, "47f9976f9f9a005e6d1cf680ec2251c745bc30bfd48463a9d9fa66e447d62048"), looks := true }, kinds := [], alts := [], laidByText := true, laidKinds := [.handle], laidTests := true, laidLooks := .later }
def StoreFreshCardSaid : Prop := Claim7.holds Tryz.pinned (.plain (OpenSpec.ofChange storeFreshSpec)) storeFreshCard

/-- THE TIED CARD OF 'cardexlaw09.StoreNil'. -/
def storeNilCard : Claim7 := { stood := { row := storeNilRow, standIns := [], harness := (true, "47f9976f9f9a005e6d1cf680ec2251c745bc30bfd48463a9d9fa66e447d62048"), looks := true }, kinds := [], alts := [], laidByText := true, laidKinds := [.handle], laidTests := true, laidLooks := .later }
def StoreNilCardSaid : Prop := Claim7.holds Tryz.pinned (.plain (OpenSpec.ofChange storeNilSpec)) storeNilCard

/-- THE SECOND FORM's CARD OF 'cardexlaw09.StoreCuts'. -/
def storeCutsUptoCard : Claim7 := { stood := { row := storeCutsUptoRow, standIns := [], harness := (true, "47f9976f9f9a005e6d1cf680ec2251c745bc30bfd48463a9d9fa66e447d62048"), looks := true }, kinds := [], alts := [], laidByText := true, laidKinds := [.handle], laidTests := true, laidLooks := .later }
def StoreCutsUptoCardSaid : Prop := Claim7.holds Tryz.pinned (.plain (OpenSpec.upto storeCutsSpec)) storeCutsUptoCard

/-- THE SECOND FORM's CARD OF 'cardexlaw09.StorePlays'. -/
def storePlaysUptoCard : Claim7 := { stood := { row := storePlaysUptoRow, standIns := [], harness := (true, "47f9976f9f9a005e6d1cf680ec2251c745bc30bfd48463a9d9fa66e447d62048"), looks := true }, kinds := [], alts := [], laidByText := true, laidKinds := [.handle], laidTests := true, laidLooks := .later }
def StorePlaysUptoCardSaid : Prop := Claim7.holds Tryz.pinned (.plain (OpenSpec.upto storePlaysSpec)) storePlaysUptoCard

/-- THE SECOND FORM's CARD OF 'cardexlaw09.StoreSame'. -/
def storeSameUptoCard : Claim7 := { stood := { row := storeSameUptoRow, standIns := [], harness := (true, "47f9976f9f9a005e6d1cf680ec2251c745bc30bfd48463a9d9fa66e447d62048"), looks := true }, kinds := [], alts := [], laidByText := true, laidKinds := [.handle], laidTests := true, laidLooks := .later }
def StoreSameUptoCardSaid : Prop := Claim7.holds Tryz.pinned (.plain (OpenSpec.upto storeSameSpec)) storeSameUptoCard

/-- THE SECOND FORM's CARD OF 'cardexlaw09.StoreFresh'. -/
def storeFreshUptoCard : Claim7 := { stood := { row := storeFreshUptoRow, standIns := [], harness := (true, "47f9976f9f9a005e6d1cf680ec2251c745bc30bfd48463a9d9fa66e447d62048"), looks := true }, kinds := [], alts := [], laidByText := true, laidKinds := [.handle], laidTests := true, laidLooks := .later }
def StoreFreshUptoCardSaid : Prop := Claim7.holds Tryz.pinned (.plain (OpenSpec.upto storeFreshSpec)) storeFreshUptoCard

/-- THE SECOND FORM's CARD OF 'cardexlaw09.StoreNil'. -/
def storeNilUptoCard : Claim7 := { stood := { row := storeNilUptoRow, standIns := [], harness := (true, "47f9976f9f9a005e6d1cf680ec2251c745bc30bfd48463a9d9fa66e447d62048"), looks := true }, kinds := [], alts := [], laidByText := true, laidKinds := [.handle], laidTests := true, laidLooks := .later }
def StoreNilUptoCardSaid : Prop := Claim7.holds Tryz.pinned (.plain (OpenSpec.upto storeNilSpec)) storeNilUptoCard
end Rows
end Go.Proofs.YtlckhaodecdbbaaGreatDoor
