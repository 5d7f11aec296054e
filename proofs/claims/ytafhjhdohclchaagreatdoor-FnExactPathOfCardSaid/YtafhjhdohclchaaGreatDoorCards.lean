/-
  DERIVED. GIVEN WITH THE SEED: THE CARDS: each row of YtafhjhdohclchaaGreatDoorRows.lean that lists a variable, with what it lists TIED to the program's text (the seventh form; the later family's looks); each row that meets fmt, with fmt's text TOLD by the authors' own Lean function (tested against real Go, not proved from fmt's source: count such statements apart). THE CARD IS WHAT COUNTS. Prove the row's statement (the work); the ties are given (YtafhjhdohclchaaGreatDoorTie.lean); close each card by the builder's one call (the guide's Derived/Test/ToyasCard.lean, 'card_holds'). Laid BY PROGRAM, IN A SANDBOX (cutbox-door.mjs). By AI agents, Wed Nov 11 2026. No macro, syntax, notation, axiom, sorry.
-/
import Derived.Test.YtafhjhdohclchaaGreatDoorRows
import GoSem.ClaimSeven
namespace Go.Proofs.YtafhjhdohclchaaGreatDoor
namespace Rows

/-- THE TIED CARD OF 'laws.FnFulls'. -/
def fnFullsCard : Claim7 := { stood := { row := fnFullsRow, standIns := [], harness := (true, "d6244663bd91ce44839fe707ef5308338a1f840c0894ddbd64a5fb76172b9280"), looks := false }, kinds := [], alts := [], laidByText := true, laidKinds := [.data, .pinned], laidTests := true, laidLooks := .later }
def FnFullsCardSaid : Prop := Claim7.holds Tryz.pinned (.plain (OpenSpec.ofChange fnFullsSpec)) fnFullsCard

/-- THE TIED CARD OF 'laws.FnExactPathOf'. -/
def fnExactPathOfCard : Claim7 := { stood := { row := fnExactPathOfRow, standIns := [], harness := (true, "d6244663bd91ce44839fe707ef5308338a1f840c0894ddbd64a5fb76172b9280"), looks := false }, kinds := [], alts := [], laidByText := true, laidKinds := [.data, .pinned], laidTests := true, laidLooks := .later }
def FnExactPathOfCardSaid : Prop := Claim7.holds Tryz.pinned (.plain (OpenSpec.ofChange fnExactPathOfSpec)) fnExactPathOfCard

/-- THE TIED CARD OF 'laws.FnExactHeldBy'. -/
def fnExactHeldByCard : Claim7 := { stood := { row := fnExactHeldByRow, standIns := [], harness := (true, "d6244663bd91ce44839fe707ef5308338a1f840c0894ddbd64a5fb76172b9280"), looks := false }, kinds := [], alts := [], laidByText := true, laidKinds := [.data, .pinned], laidTests := true, laidLooks := .later }
def FnExactHeldByCardSaid : Prop := Claim7.holds Tryz.pinned (.plain (OpenSpec.ofChange fnExactHeldBySpec)) fnExactHeldByCard

/-- THE TIED CARD OF 'laws.FnExactSameTrees'. -/
def fnExactSameTreesCard : Claim7 := { stood := { row := fnExactSameTreesRow, standIns := [], harness := (true, "d6244663bd91ce44839fe707ef5308338a1f840c0894ddbd64a5fb76172b9280"), looks := false }, kinds := [], alts := [], laidByText := true, laidKinds := [.data, .pinned], laidTests := true, laidLooks := .later }
def FnExactSameTreesCardSaid : Prop := Claim7.holds Tryz.pinned (.plain (OpenSpec.ofChange fnExactSameTreesSpec)) fnExactSameTreesCard

/-- THE TIED CARD OF 'laws.FnExactItemsOf'. -/
def fnExactItemsOfCard : Claim7 := { stood := { row := fnExactItemsOfRow, standIns := [], harness := (true, "d6244663bd91ce44839fe707ef5308338a1f840c0894ddbd64a5fb76172b9280"), looks := false }, kinds := [], alts := [], laidByText := true, laidKinds := [.data, .pinned], laidTests := true, laidLooks := .later }
def FnExactItemsOfCardSaid : Prop := Claim7.holds Tryz.pinned (.plain (OpenSpec.ofChange fnExactItemsOfSpec)) fnExactItemsOfCard

/-- THE TIED CARD OF 'laws.FnExactTreeText'. -/
def fnExactTreeTextCard : Claim7 := { stood := { row := fnExactTreeTextRow, standIns := [], harness := (true, "d6244663bd91ce44839fe707ef5308338a1f840c0894ddbd64a5fb76172b9280"), looks := false }, kinds := [], alts := [], laidByText := true, laidKinds := [.data, .data, .data, .data, .pinned], laidTests := true, laidLooks := .later }
def FnExactTreeTextCardSaid : Prop := Claim7.holds Tryz.pinned (.plain (OpenSpec.ofChange fnExactTreeTextSpec)) fnExactTreeTextCard

/-- THE TIED CARD OF 'laws.FnWorlds'. -/
def fnWorldsCard : Claim7 := { stood := { row := fnWorldsRow, standIns := [], harness := (true, "d6244663bd91ce44839fe707ef5308338a1f840c0894ddbd64a5fb76172b9280"), looks := false }, kinds := [], alts := [], laidByText := true, laidKinds := [.data, .pinned], laidTests := true, laidLooks := .later }
def FnWorldsCardSaid : Prop := Claim7.holds Tryz.pinned (.plain (OpenSpec.ofChange fnWorldsSpec)) fnWorldsCard

/-- THE TIED CARD OF 'laws.FnExactLinkPath'. -/
def fnExactLinkPathCard : Claim7 := { stood := { row := fnExactLinkPathRow, standIns := [], harness := (true, "d6244663bd91ce44839fe707ef5308338a1f840c0894ddbd64a5fb76172b9280"), looks := false }, kinds := [], alts := [], laidByText := true, laidKinds := [.data, .pinned], laidTests := true, laidLooks := .later }
def FnExactLinkPathCardSaid : Prop := Claim7.holds Tryz.pinned (.plain (OpenSpec.ofChange fnExactLinkPathSpec)) fnExactLinkPathCard

/-- THE SECOND FORM's CARD OF 'laws.FnFulls'. -/
def fnFullsUptoCard : Claim7 := { stood := { row := fnFullsUptoRow, standIns := [], harness := (true, "d6244663bd91ce44839fe707ef5308338a1f840c0894ddbd64a5fb76172b9280"), looks := false }, kinds := [], alts := [], laidByText := true, laidKinds := [.data, .pinned], laidTests := true, laidLooks := .later }
def FnFullsUptoCardSaid : Prop := Claim7.holds Tryz.pinned (.plain (OpenSpec.upto fnFullsSpec)) fnFullsUptoCard

/-- THE SECOND FORM's CARD OF 'laws.FnExactPathOf'. -/
def fnExactPathOfUptoCard : Claim7 := { stood := { row := fnExactPathOfUptoRow, standIns := [], harness := (true, "d6244663bd91ce44839fe707ef5308338a1f840c0894ddbd64a5fb76172b9280"), looks := false }, kinds := [], alts := [], laidByText := true, laidKinds := [.data, .pinned], laidTests := true, laidLooks := .later }
def FnExactPathOfUptoCardSaid : Prop := Claim7.holds Tryz.pinned (.plain (OpenSpec.upto fnExactPathOfSpec)) fnExactPathOfUptoCard

/-- THE SECOND FORM's CARD OF 'laws.FnExactHeldBy'. -/
def fnExactHeldByUptoCard : Claim7 := { stood := { row := fnExactHeldByUptoRow, standIns := [], harness := (true, "d6244663bd91ce44839fe707ef5308338a1f840c0894ddbd64a5fb76172b9280"), looks := false }, kinds := [], alts := [], laidByText := true, laidKinds := [.data, .pinned], laidTests := true, laidLooks := .later }
def FnExactHeldByUptoCardSaid : Prop := Claim7.holds Tryz.pinned (.plain (OpenSpec.upto fnExactHeldBySpec)) fnExactHeldByUptoCard

/-- THE SECOND FORM's CARD OF 'laws.FnExactSameTrees'. -/
def fnExactSameTreesUptoCard : Claim7 := { stood := { row := fnExactSameTreesUptoRow, standIns := [], harness := (true, "d6244663bd91ce44839fe707ef5308338a1f840c0894ddbd64a5fb76172b9280"), looks := false }, kinds := [], alts := [], laidByText := true, laidKinds := [.data, .pinned], laidTests := true, laidLooks := .later }
def FnExactSameTreesUptoCardSaid : Prop := Claim7.holds Tryz.pinned (.plain (OpenSpec.upto fnExactSameTreesSpec)) fnExactSameTreesUptoCard

/-- THE SECOND FORM's CARD OF 'laws.FnExactItemsOf'. -/
def fnExactItemsOfUptoCard : Claim7 := { stood := { row := fnExactItemsOfUptoRow, standIns := [], harness := (true, "d6244663bd91ce44839fe707ef5308338a1f840c0894ddbd64a5fb76172b9280"), looks := false }, kinds := [], alts := [], laidByText := true, laidKinds := [.data, .pinned], laidTests := true, laidLooks := .later }
def FnExactItemsOfUptoCardSaid : Prop := Claim7.holds Tryz.pinned (.plain (OpenSpec.upto fnExactItemsOfSpec)) fnExactItemsOfUptoCard

/-- THE SECOND FORM's CARD OF 'laws.FnExactTreeText'. -/
def fnExactTreeTextUptoCard : Claim7 := { stood := { row := fnExactTreeTextUptoRow, standIns := [], harness := (true, "d6244663bd91ce44839fe707ef5308338a1f840c0894ddbd64a5fb76172b9280"), looks := false }, kinds := [], alts := [], laidByText := true, laidKinds := [.data, .data, .data, .data, .pinned], laidTests := true, laidLooks := .later }
def FnExactTreeTextUptoCardSaid : Prop := Claim7.holds Tryz.pinned (.plain (OpenSpec.upto fnExactTreeTextSpec)) fnExactTreeTextUptoCard

/-- THE SECOND FORM's CARD OF 'laws.FnWorlds'. -/
def fnWorldsUptoCard : Claim7 := { stood := { row := fnWorldsUptoRow, standIns := [], harness := (true, "d6244663bd91ce44839fe707ef5308338a1f840c0894ddbd64a5fb76172b9280"), looks := false }, kinds := [], alts := [], laidByText := true, laidKinds := [.data, .pinned], laidTests := true, laidLooks := .later }
def FnWorldsUptoCardSaid : Prop := Claim7.holds Tryz.pinned (.plain (OpenSpec.upto fnWorldsSpec)) fnWorldsUptoCard

/-- THE SECOND FORM's CARD OF 'laws.FnExactLinkPath'. -/
def fnExactLinkPathUptoCard : Claim7 := { stood := { row := fnExactLinkPathUptoRow, standIns := [], harness := (true, "d6244663bd91ce44839fe707ef5308338a1f840c0894ddbd64a5fb76172b9280"), looks := false }, kinds := [], alts := [], laidByText := true, laidKinds := [.data, .pinned], laidTests := true, laidLooks := .later }
def FnExactLinkPathUptoCardSaid : Prop := Claim7.holds Tryz.pinned (.plain (OpenSpec.upto fnExactLinkPathSpec)) fnExactLinkPathUptoCard
end Rows
end Go.Proofs.YtafhjhdohclchaaGreatDoor
