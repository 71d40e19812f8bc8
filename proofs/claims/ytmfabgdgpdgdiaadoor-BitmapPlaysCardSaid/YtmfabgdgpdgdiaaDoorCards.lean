/-
  DERIVED. GIVEN WITH THE SEED: THE CARDS: each row of YtmfabgdgpdgdiaaDoorRows.lean that lists a variable, with what it lists TIED to the program's text (the seventh form; the later family's looks); each row that meets fmt, with fmt's text TOLD by the authors' own Lean function (tested against real Go, not proved from fmt's source: count such statements apart). THE CARD IS WHAT COUNTS. Prove the row's statement (the work); the ties are given (YtmfabgdgpdgdiaaDoorTie.lean); close each card by the builder's one call (the guide's Derived/Test/ToyasCard.lean, 'card_holds'). Laid BY PROGRAM, IN A SANDBOX (cutbox-door.mjs). By AI agents, Wed Nov 11 2026. No macro, syntax, notation, axiom, sorry.
-/
import Derived.Test.YtmfabgdgpdgdiaaDoorRows
import GoSem.ClaimSeven
namespace Go.Proofs.YtmfabgdgpdgdiaaDoor
namespace Rows

/-- THE TIED CARD OF 'januslaw14.BitmapTakes'. -/
def bitmapTakesCard : Claim7 := { stood := { row := bitmapTakesRow, standIns := [], harness := (true, "b534b17df50d696a5db1f122f50554a728b5d245759fc3decd3baaae201ef0fb"), looks := false }, kinds := [], alts := [], laidByText := true, laidKinds := [.data], laidTests := true, laidLooks := .later }
def BitmapTakesCardSaid : Prop := Claim7.holds Tryd.pinned (.plain (OpenSpec.ofChange bitmapTakesSpec)) bitmapTakesCard

/-- THE TIED CARD OF 'januslaw14.BitmapPlays'. -/
def bitmapPlaysCard : Claim7 := { stood := { row := bitmapPlaysRow, standIns := [], harness := (true, "b534b17df50d696a5db1f122f50554a728b5d245759fc3decd3baaae201ef0fb"), looks := false }, kinds := [], alts := [], laidByText := true, laidKinds := [.data], laidTests := true, laidLooks := .later }
def BitmapPlaysCardSaid : Prop := Claim7.holds Tryd.pinned (.plain (OpenSpec.ofChange bitmapPlaysSpec)) bitmapPlaysCard

/-- THE TIED CARD OF 'januslaw14.BitmapBack'. -/
def bitmapBackCard : Claim7 := { stood := { row := bitmapBackRow, standIns := [], harness := (true, "b534b17df50d696a5db1f122f50554a728b5d245759fc3decd3baaae201ef0fb"), looks := false }, kinds := [], alts := [], laidByText := true, laidKinds := [.data], laidTests := true, laidLooks := .later }
def BitmapBackCardSaid : Prop := Claim7.holds Tryd.pinned (.plain (OpenSpec.ofChange bitmapBackSpec)) bitmapBackCard

/-- THE TIED CARD OF 'januslaw14.BitmapNone'. -/
def bitmapNoneCard : Claim7 := { stood := { row := bitmapNoneRow, standIns := [], harness := (true, "b534b17df50d696a5db1f122f50554a728b5d245759fc3decd3baaae201ef0fb"), looks := false }, kinds := [], alts := [], laidByText := true, laidKinds := [.data], laidTests := true, laidLooks := .later }
def BitmapNoneCardSaid : Prop := Claim7.holds Tryd.pinned (.plain (OpenSpec.ofChange bitmapNoneSpec)) bitmapNoneCard

/-- THE SECOND FORM's CARD OF 'januslaw14.BitmapTakes'. -/
def bitmapTakesUptoCard : Claim7 := { stood := { row := bitmapTakesUptoRow, standIns := [], harness := (true, "b534b17df50d696a5db1f122f50554a728b5d245759fc3decd3baaae201ef0fb"), looks := false }, kinds := [], alts := [], laidByText := true, laidKinds := [.data], laidTests := true, laidLooks := .later }
def BitmapTakesUptoCardSaid : Prop := Claim7.holds Tryd.pinned (.plain (OpenSpec.upto bitmapTakesSpec)) bitmapTakesUptoCard

/-- THE SECOND FORM's CARD OF 'januslaw14.BitmapPlays'. -/
def bitmapPlaysUptoCard : Claim7 := { stood := { row := bitmapPlaysUptoRow, standIns := [], harness := (true, "b534b17df50d696a5db1f122f50554a728b5d245759fc3decd3baaae201ef0fb"), looks := false }, kinds := [], alts := [], laidByText := true, laidKinds := [.data], laidTests := true, laidLooks := .later }
def BitmapPlaysUptoCardSaid : Prop := Claim7.holds Tryd.pinned (.plain (OpenSpec.upto bitmapPlaysSpec)) bitmapPlaysUptoCard

/-- THE SECOND FORM's CARD OF 'januslaw14.BitmapBack'. -/
def bitmapBackUptoCard : Claim7 := { stood := { row := bitmapBackUptoRow, standIns := [], harness := (true, "b534b17df50d696a5db1f122f50554a728b5d245759fc3decd3baaae201ef0fb"), looks := false }, kinds := [], alts := [], laidByText := true, laidKinds := [.data], laidTests := true, laidLooks := .later }
def BitmapBackUptoCardSaid : Prop := Claim7.holds Tryd.pinned (.plain (OpenSpec.upto bitmapBackSpec)) bitmapBackUptoCard

/-- THE SECOND FORM's CARD OF 'januslaw14.BitmapNone'. -/
def bitmapNoneUptoCard : Claim7 := { stood := { row := bitmapNoneUptoRow, standIns := [], harness := (true, "b534b17df50d696a5db1f122f50554a728b5d245759fc3decd3baaae201ef0fb"), looks := false }, kinds := [], alts := [], laidByText := true, laidKinds := [.data], laidTests := true, laidLooks := .later }
def BitmapNoneUptoCardSaid : Prop := Claim7.holds Tryd.pinned (.plain (OpenSpec.upto bitmapNoneSpec)) bitmapNoneUptoCard
end Rows
end Go.Proofs.YtmfabgdgpdgdiaaDoor
