/-
  No cell of these rows narrows 'for every input' (looked for: loops, veiled, ifaces, maps, wideKeys, modest, calm, conditions, laid).
  DERIVED. THE GIVEN ROWS OF THIS SEAT. 8 by the template 'for every input the law returns true; each argument reads behind the call as it read before'; 0 by the template 'total and deterministic' (their statements: YtaaohfhcimndmaaTotals.lean).
  GIVEN WITH THE SEED: the statements are not yours to turn. If you find one false, say at which input.
  Laid BY PROGRAM, IN A SANDBOX (cutbox-rows.mjs): the forced cells as the released guide's own fill.sh prints them over the translation 42a92ee47759cfe7… (all of the seat's roots in one cut). By AI agents, Wed Nov 11 2026. No macro, syntax, notation, axiom, sorry.
-/
import Derived.Test.YtaaohfhcimndmaaChecked
import GoSem.Claim
import GoSem.ClaimJoined
import GoSem.ClaimMapViews
import Derived.JoinedTies
import Derived.KernelRfl
namespace Go.Proofs.Ytaaohfhcimndmaa
/- THE CELL 'sum', in the pinned program and in every row, IS THE sha256 OF THE DUMP (.gsa) THAT YtaaohfhcimndmaaProg.lean LOADS. Nothing in Lean hashes anything: it is a label: what it is worth is what the hold of that sum in a sandbox is worth. -/
noncomputable def Try.pinned : Pinned := { name := "ytaaohfhcimndmaa", sum := "42a92ee47759cfe7979c2f3b60933efc62dedbca5adcdf90da22cd43106fe483", checked := Try.checked }
namespace Rows
def none {H : Type} : Left H := { results := [], args := [] }

/-- 'patchbaykeep2.PathBack': WHATEVER THE INPUT: true; the input reads as it did. -/
def pathBackSpec : ChangeSpec := { name := "pathBack", fn := fun _ => fun
  | [d] => { results := [.lit (.bool true)], args := [d] }
  | _ => none }
def pathBackRow : OpenClaim := { program := "ytaaohfhcimndmaa", sum := "42a92ee47759cfe7979c2f3b60933efc62dedbca5adcdf90da22cd43106fe483", func := "patchbay/patchbaykeep2.PathBack", spec := "pathBack", unfollowed := true, recurses := true, apart := false }
def PathBackSaid : Prop := pathBackRow.holds Try.pinned (OpenSpec.ofChange pathBackSpec)

/-- ITS FALSE NEIGHBOUR: 'it returns false'. Refute it at one input. -/
def pathBackWrong : ChangeSpec := { name := "pathBack", fn := fun _ => fun
  | [d] => { results := [.lit (.bool false)], args := [d] }
  | _ => none }
def PathBackWrongFalsely : Prop := pathBackRow.holds Try.pinned (OpenSpec.ofChange pathBackWrong)

/-- 'patchbaykeep2.PathUnique': WHATEVER THE INPUT: true; the input reads as it did. -/
def pathUniqueSpec : ChangeSpec := { name := "pathUnique", fn := fun _ => fun
  | [d] => { results := [.lit (.bool true)], args := [d] }
  | _ => none }
def pathUniqueRow : OpenClaim := { program := "ytaaohfhcimndmaa", sum := "42a92ee47759cfe7979c2f3b60933efc62dedbca5adcdf90da22cd43106fe483", func := "patchbay/patchbaykeep2.PathUnique", spec := "pathUnique", unfollowed := true, recurses := true, apart := false }
def PathUniqueSaid : Prop := pathUniqueRow.holds Try.pinned (OpenSpec.ofChange pathUniqueSpec)

/-- ITS FALSE NEIGHBOUR: 'it returns false'. Refute it at one input. -/
def pathUniqueWrong : ChangeSpec := { name := "pathUnique", fn := fun _ => fun
  | [d] => { results := [.lit (.bool false)], args := [d] }
  | _ => none }
def PathUniqueWrongFalsely : Prop := pathUniqueRow.holds Try.pinned (OpenSpec.ofChange pathUniqueWrong)

/-- 'patchbaykeep2.ShortTurned': WHATEVER THE INPUT: true; the input reads as it did. -/
def shortTurnedSpec : ChangeSpec := { name := "shortTurned", fn := fun _ => fun
  | [d1, d2, d3] => { results := [.lit (.bool true)], args := [d1, d2, d3] }
  | _ => none }
def shortTurnedRow : OpenClaim := { program := "ytaaohfhcimndmaa", sum := "42a92ee47759cfe7979c2f3b60933efc62dedbca5adcdf90da22cd43106fe483", func := "patchbay/patchbaykeep2.ShortTurned", spec := "shortTurned", unfollowed := true, recurses := true, apart := false }
def ShortTurnedSaid : Prop := shortTurnedRow.holds Try.pinned (OpenSpec.ofChange shortTurnedSpec)

/-- ITS FALSE NEIGHBOUR: 'it returns false'. Refute it at one input. -/
def shortTurnedWrong : ChangeSpec := { name := "shortTurned", fn := fun _ => fun
  | [d1, d2, d3] => { results := [.lit (.bool false)], args := [d1, d2, d3] }
  | _ => none }
def ShortTurnedWrongFalsely : Prop := shortTurnedRow.holds Try.pinned (OpenSpec.ofChange shortTurnedWrong)

/-- 'patchbaykeep2.ShortMore': WHATEVER THE INPUT: true; the input reads as it did. -/
def shortMoreSpec : ChangeSpec := { name := "shortMore", fn := fun _ => fun
  | [d1, d2, d3] => { results := [.lit (.bool true)], args := [d1, d2, d3] }
  | _ => none }
def shortMoreRow : OpenClaim := { program := "ytaaohfhcimndmaa", sum := "42a92ee47759cfe7979c2f3b60933efc62dedbca5adcdf90da22cd43106fe483", func := "patchbay/patchbaykeep2.ShortMore", spec := "shortMore", unfollowed := true, recurses := true, apart := false }
def ShortMoreSaid : Prop := shortMoreRow.holds Try.pinned (OpenSpec.ofChange shortMoreSpec)

/-- ITS FALSE NEIGHBOUR: 'it returns false'. Refute it at one input. -/
def shortMoreWrong : ChangeSpec := { name := "shortMore", fn := fun _ => fun
  | [d1, d2, d3] => { results := [.lit (.bool false)], args := [d1, d2, d3] }
  | _ => none }
def ShortMoreWrongFalsely : Prop := shortMoreRow.holds Try.pinned (OpenSpec.ofChange shortMoreWrong)

/-- 'patchbaykeep2.ShortTrees': WHATEVER THE INPUT: true; the input reads as it did. -/
def shortTreesSpec : ChangeSpec := { name := "shortTrees", fn := fun _ => fun
  | [d1, d2, d3] => { results := [.lit (.bool true)], args := [d1, d2, d3] }
  | _ => none }
def shortTreesRow : OpenClaim := { program := "ytaaohfhcimndmaa", sum := "42a92ee47759cfe7979c2f3b60933efc62dedbca5adcdf90da22cd43106fe483", func := "patchbay/patchbaykeep2.ShortTrees", spec := "shortTrees", unfollowed := true, recurses := true, apart := false }
def ShortTreesSaid : Prop := shortTreesRow.holds Try.pinned (OpenSpec.ofChange shortTreesSpec)

/-- ITS FALSE NEIGHBOUR: 'it returns false'. Refute it at one input. -/
def shortTreesWrong : ChangeSpec := { name := "shortTrees", fn := fun _ => fun
  | [d1, d2, d3] => { results := [.lit (.bool false)], args := [d1, d2, d3] }
  | _ => none }
def ShortTreesWrongFalsely : Prop := shortTreesRow.holds Try.pinned (OpenSpec.ofChange shortTreesWrong)

/-- 'patchbaykeep2.AreaOne': WHATEVER THE INPUT: true; the input reads as it did. -/
def areaOneSpec : ChangeSpec := { name := "areaOne", fn := fun _ => fun
  | [d1, d2, d3] => { results := [.lit (.bool true)], args := [d1, d2, d3] }
  | _ => none }
def areaOneRow : OpenClaim := { program := "ytaaohfhcimndmaa", sum := "42a92ee47759cfe7979c2f3b60933efc62dedbca5adcdf90da22cd43106fe483", func := "patchbay/patchbaykeep2.AreaOne", spec := "areaOne", unfollowed := true, recurses := true, apart := false }
def AreaOneSaid : Prop := areaOneRow.holds Try.pinned (OpenSpec.ofChange areaOneSpec)

/-- ITS FALSE NEIGHBOUR: 'it returns false'. Refute it at one input. -/
def areaOneWrong : ChangeSpec := { name := "areaOne", fn := fun _ => fun
  | [d1, d2, d3] => { results := [.lit (.bool false)], args := [d1, d2, d3] }
  | _ => none }
def AreaOneWrongFalsely : Prop := areaOneRow.holds Try.pinned (OpenSpec.ofChange areaOneWrong)

/-- 'patchbaykeep2.AreaBounds': WHATEVER THE INPUT: true; the input reads as it did. -/
def areaBoundsSpec : ChangeSpec := { name := "areaBounds", fn := fun _ => fun
  | [d1, d2, d3] => { results := [.lit (.bool true)], args := [d1, d2, d3] }
  | _ => none }
def areaBoundsRow : OpenClaim := { program := "ytaaohfhcimndmaa", sum := "42a92ee47759cfe7979c2f3b60933efc62dedbca5adcdf90da22cd43106fe483", func := "patchbay/patchbaykeep2.AreaBounds", spec := "areaBounds", unfollowed := true, recurses := true, apart := false }
def AreaBoundsSaid : Prop := areaBoundsRow.holds Try.pinned (OpenSpec.ofChange areaBoundsSpec)

/-- ITS FALSE NEIGHBOUR: 'it returns false'. Refute it at one input. -/
def areaBoundsWrong : ChangeSpec := { name := "areaBounds", fn := fun _ => fun
  | [d1, d2, d3] => { results := [.lit (.bool false)], args := [d1, d2, d3] }
  | _ => none }
def AreaBoundsWrongFalsely : Prop := areaBoundsRow.holds Try.pinned (OpenSpec.ofChange areaBoundsWrong)

/-- 'patchbaykeep2.AreaAnnounced': WHATEVER THE INPUT: true; the input reads as it did. -/
def areaAnnouncedSpec : ChangeSpec := { name := "areaAnnounced", fn := fun _ => fun
  | [d1, d2, d3] => { results := [.lit (.bool true)], args := [d1, d2, d3] }
  | _ => none }
def areaAnnouncedRow : OpenClaim := { program := "ytaaohfhcimndmaa", sum := "42a92ee47759cfe7979c2f3b60933efc62dedbca5adcdf90da22cd43106fe483", func := "patchbay/patchbaykeep2.AreaAnnounced", spec := "areaAnnounced", unfollowed := true, recurses := true, apart := false }
def AreaAnnouncedSaid : Prop := areaAnnouncedRow.holds Try.pinned (OpenSpec.ofChange areaAnnouncedSpec)

/-- ITS FALSE NEIGHBOUR: 'it returns false'. Refute it at one input. -/
def areaAnnouncedWrong : ChangeSpec := { name := "areaAnnounced", fn := fun _ => fun
  | [d1, d2, d3] => { results := [.lit (.bool false)], args := [d1, d2, d3] }
  | _ => none }
def AreaAnnouncedWrongFalsely : Prop := areaAnnouncedRow.holds Try.pinned (OpenSpec.ofChange areaAnnouncedWrong)

/- THE SECOND FORM. 'bulk': how many values and letters a reading holds, each counted each time it is reached (what is shared counts as often as it is met; a slice's spare places count too). A statement '..UptoSaid' is the law's where the arguments, and the package variables that the reading takes, are together of bulk at most 1048576: NARROWER than '..Said'. Prove '..Said' where nothing that the law and all that it calls make is longer than what came in: it says more and counts as full. Else prove '..UptoSaid'. A law counts once. -/
mutual
def uptoBulk {H : Type} : DataW H → Nat
  | .lit (.string bytes) => bytes.length + 1
  | .lit _ => 1
  | .nil => 1
  | .ptr d => uptoBulk d + 1
  | .slice elems spare => uptoBulkAll elems + uptoBulkAll spare + 1
  | .agg parts => uptoBulkAll parts + 1
  | .iface _ d => uptoBulk d + 1
  | .map entries => uptoBulkEntries entries + 1
  | .held _ => 1
def uptoBulkAll {H : Type} : List (DataW H) → Nat
  | [] => 0
  | d :: r => uptoBulk d + uptoBulkAll r
def uptoBulkEntries {H : Type} : List (Lit × DataW H) → Nat
  | [] => 0
  | x :: r => uptoBulkEntry x + uptoBulkEntries r
def uptoBulkEntry {H : Type} : Lit × DataW H → Nat
  | (.string bytes, d) => bytes.length + uptoBulk d + 1
  | (_, d) => uptoBulk d + 1
 end
def uptoSmall : (H : Type) → List (DataW H) → Bool := fun _ ds => decide (uptoBulkAll ds ≤ 1048576)
def OpenSpec.upto (s : _root_.Go.ChangeSpec) : _root_.Go.OpenSpec := { _root_.Go.OpenSpec.ofChange s with cond := some uptoSmall }

/-- 'patchbaykeep2.PathBack', WHERE WHAT IT READS IS OF BULK AT MOST 1048576: true; the input reads as it did. -/
def pathBackUptoRow : OpenClaim := { program := "ytaaohfhcimndmaa", sum := "42a92ee47759cfe7979c2f3b60933efc62dedbca5adcdf90da22cd43106fe483", func := "patchbay/patchbaykeep2.PathBack", spec := "pathBack", unfollowed := true, recurses := true, apart := false, narrowed := true }
def PathBackUptoSaid : Prop := pathBackUptoRow.holds Try.pinned (OpenSpec.upto pathBackSpec)

/-- 'patchbaykeep2.PathUnique', WHERE WHAT IT READS IS OF BULK AT MOST 1048576: true; the input reads as it did. -/
def pathUniqueUptoRow : OpenClaim := { program := "ytaaohfhcimndmaa", sum := "42a92ee47759cfe7979c2f3b60933efc62dedbca5adcdf90da22cd43106fe483", func := "patchbay/patchbaykeep2.PathUnique", spec := "pathUnique", unfollowed := true, recurses := true, apart := false, narrowed := true }
def PathUniqueUptoSaid : Prop := pathUniqueUptoRow.holds Try.pinned (OpenSpec.upto pathUniqueSpec)

/-- 'patchbaykeep2.ShortTurned', WHERE WHAT IT READS IS OF BULK AT MOST 1048576: true; the input reads as it did. -/
def shortTurnedUptoRow : OpenClaim := { program := "ytaaohfhcimndmaa", sum := "42a92ee47759cfe7979c2f3b60933efc62dedbca5adcdf90da22cd43106fe483", func := "patchbay/patchbaykeep2.ShortTurned", spec := "shortTurned", unfollowed := true, recurses := true, apart := false, narrowed := true }
def ShortTurnedUptoSaid : Prop := shortTurnedUptoRow.holds Try.pinned (OpenSpec.upto shortTurnedSpec)

/-- 'patchbaykeep2.ShortMore', WHERE WHAT IT READS IS OF BULK AT MOST 1048576: true; the input reads as it did. -/
def shortMoreUptoRow : OpenClaim := { program := "ytaaohfhcimndmaa", sum := "42a92ee47759cfe7979c2f3b60933efc62dedbca5adcdf90da22cd43106fe483", func := "patchbay/patchbaykeep2.ShortMore", spec := "shortMore", unfollowed := true, recurses := true, apart := false, narrowed := true }
def ShortMoreUptoSaid : Prop := shortMoreUptoRow.holds Try.pinned (OpenSpec.upto shortMoreSpec)

/-- 'patchbaykeep2.ShortTrees', WHERE WHAT IT READS IS OF BULK AT MOST 1048576: true; the input reads as it did. -/
def shortTreesUptoRow : OpenClaim := { program := "ytaaohfhcimndmaa", sum := "42a92ee47759cfe7979c2f3b60933efc62dedbca5adcdf90da22cd43106fe483", func := "patchbay/patchbaykeep2.ShortTrees", spec := "shortTrees", unfollowed := true, recurses := true, apart := false, narrowed := true }
def ShortTreesUptoSaid : Prop := shortTreesUptoRow.holds Try.pinned (OpenSpec.upto shortTreesSpec)

/-- 'patchbaykeep2.AreaOne', WHERE WHAT IT READS IS OF BULK AT MOST 1048576: true; the input reads as it did. -/
def areaOneUptoRow : OpenClaim := { program := "ytaaohfhcimndmaa", sum := "42a92ee47759cfe7979c2f3b60933efc62dedbca5adcdf90da22cd43106fe483", func := "patchbay/patchbaykeep2.AreaOne", spec := "areaOne", unfollowed := true, recurses := true, apart := false, narrowed := true }
def AreaOneUptoSaid : Prop := areaOneUptoRow.holds Try.pinned (OpenSpec.upto areaOneSpec)

/-- 'patchbaykeep2.AreaBounds', WHERE WHAT IT READS IS OF BULK AT MOST 1048576: true; the input reads as it did. -/
def areaBoundsUptoRow : OpenClaim := { program := "ytaaohfhcimndmaa", sum := "42a92ee47759cfe7979c2f3b60933efc62dedbca5adcdf90da22cd43106fe483", func := "patchbay/patchbaykeep2.AreaBounds", spec := "areaBounds", unfollowed := true, recurses := true, apart := false, narrowed := true }
def AreaBoundsUptoSaid : Prop := areaBoundsUptoRow.holds Try.pinned (OpenSpec.upto areaBoundsSpec)

/-- 'patchbaykeep2.AreaAnnounced', WHERE WHAT IT READS IS OF BULK AT MOST 1048576: true; the input reads as it did. -/
def areaAnnouncedUptoRow : OpenClaim := { program := "ytaaohfhcimndmaa", sum := "42a92ee47759cfe7979c2f3b60933efc62dedbca5adcdf90da22cd43106fe483", func := "patchbay/patchbaykeep2.AreaAnnounced", spec := "areaAnnounced", unfollowed := true, recurses := true, apart := false, narrowed := true }
def AreaAnnouncedUptoSaid : Prop := areaAnnouncedUptoRow.holds Try.pinned (OpenSpec.upto areaAnnouncedSpec)

end Rows
end Go.Proofs.Ytaaohfhcimndmaa
