/-
  No cell of these rows narrows 'for every input' (looked for: loops, veiled, ifaces, maps, wideKeys, modest, calm, conditions, laid).
  DERIVED. THE GIVEN ROWS OF THIS SEAT. 11 by the template 'for every input the law returns true; each argument reads behind the call as it read before'; 0 by the template 'total and deterministic' (their statements: YtaneaabmgnanbaaTotals.lean).
  GIVEN WITH THE SEED: the statements are not yours to turn. If you find one false, say at which input.
  Laid BY PROGRAM, IN A SANDBOX (cutbox-rows.mjs): the forced cells as the released guide's own fill.sh prints them over the translation e33d25f5946c5c29… (all of the seat's roots in one cut). By AI agents, Wed Nov 11 2026. No macro, syntax, notation, axiom, sorry.
-/
import Derived.Test.YtaneaabmgnanbaaChecked
import GoSem.Claim
import GoSem.ClaimJoined
import GoSem.ClaimMapViews
import Derived.JoinedTies
import Derived.KernelRfl
namespace Go.Proofs.Ytaneaabmgnanbaa
/- THE CELL 'sum', in the pinned program and in every row, IS THE sha256 OF THE DUMP (.gsa) THAT YtaneaabmgnanbaaProg.lean LOADS. Nothing in Lean hashes anything: it is a label: what it is worth is what the hold of that sum in a sandbox is worth. -/
noncomputable def Try.pinned : Pinned := { name := "ytaneaabmgnanbaa", sum := "e33d25f5946c5c29e1a2bc7154d629d949342190a8f1aa566dd1b7586f6ccdf2", checked := Try.checked }
namespace Rows
def none {H : Type} : Left H := { results := [], args := [] }

/-- 'patchbaykeep2.AdvSpoiled': WHATEVER THE INPUT: true; the input reads as it did. -/
def advSpoiledSpec : ChangeSpec := { name := "advSpoiled", fn := fun _ => fun
  | [d1, d2, d3] => { results := [.lit (.bool true)], args := [d1, d2, d3] }
  | _ => none }
def advSpoiledRow : OpenClaim := { program := "ytaneaabmgnanbaa", sum := "e33d25f5946c5c29e1a2bc7154d629d949342190a8f1aa566dd1b7586f6ccdf2", func := "patchbay/patchbaykeep2.AdvSpoiled", spec := "advSpoiled", apart := false }
def AdvSpoiledSaid : Prop := advSpoiledRow.holds Try.pinned (OpenSpec.ofChange advSpoiledSpec)

/-- ITS FALSE NEIGHBOUR: 'it returns false'. Refute it at one input. -/
def advSpoiledWrong : ChangeSpec := { name := "advSpoiled", fn := fun _ => fun
  | [d1, d2, d3] => { results := [.lit (.bool false)], args := [d1, d2, d3] }
  | _ => none }
def AdvSpoiledWrongFalsely : Prop := advSpoiledRow.holds Try.pinned (OpenSpec.ofChange advSpoiledWrong)

/-- 'patchbaykeep2.AdvBack': WHATEVER THE INPUT: true; the input reads as it did. -/
def advBackSpec : ChangeSpec := { name := "advBack", fn := fun _ => fun
  | [d] => { results := [.lit (.bool true)], args := [d] }
  | _ => none }
def advBackRow : OpenClaim := { program := "ytaneaabmgnanbaa", sum := "e33d25f5946c5c29e1a2bc7154d629d949342190a8f1aa566dd1b7586f6ccdf2", func := "patchbay/patchbaykeep2.AdvBack", spec := "advBack", apart := false }
def AdvBackSaid : Prop := advBackRow.holds Try.pinned (OpenSpec.ofChange advBackSpec)

/-- ITS FALSE NEIGHBOUR: 'it returns false'. Refute it at one input. -/
def advBackWrong : ChangeSpec := { name := "advBack", fn := fun _ => fun
  | [d] => { results := [.lit (.bool false)], args := [d] }
  | _ => none }
def AdvBackWrongFalsely : Prop := advBackRow.holds Try.pinned (OpenSpec.ofChange advBackWrong)

/-- 'patchbaykeep2.AdvOrder': WHATEVER THE INPUT: true; the input reads as it did. -/
def advOrderSpec : ChangeSpec := { name := "advOrder", fn := fun _ => fun
  | [d1, d2, d3, d4] => { results := [.lit (.bool true)], args := [d1, d2, d3, d4] }
  | _ => none }
def advOrderRow : OpenClaim := { program := "ytaneaabmgnanbaa", sum := "e33d25f5946c5c29e1a2bc7154d629d949342190a8f1aa566dd1b7586f6ccdf2", func := "patchbay/patchbaykeep2.AdvOrder", spec := "advOrder", unfollowed := true, recurses := true, apart := false }
def AdvOrderSaid : Prop := advOrderRow.holds Try.pinned (OpenSpec.ofChange advOrderSpec)

/-- ITS FALSE NEIGHBOUR: 'it returns false'. Refute it at one input. -/
def advOrderWrong : ChangeSpec := { name := "advOrder", fn := fun _ => fun
  | [d1, d2, d3, d4] => { results := [.lit (.bool false)], args := [d1, d2, d3, d4] }
  | _ => none }
def AdvOrderWrongFalsely : Prop := advOrderRow.holds Try.pinned (OpenSpec.ofChange advOrderWrong)

/-- 'patchbaykeep2.AdvBoth': WHATEVER THE INPUT: true; the input reads as it did. -/
def advBothSpec : ChangeSpec := { name := "advBoth", fn := fun _ => fun
  | [d] => { results := [.lit (.bool true)], args := [d] }
  | _ => none }
def advBothRow : OpenClaim := { program := "ytaneaabmgnanbaa", sum := "e33d25f5946c5c29e1a2bc7154d629d949342190a8f1aa566dd1b7586f6ccdf2", func := "patchbay/patchbaykeep2.AdvBoth", spec := "advBoth", unfollowed := true, recurses := true, apart := false }
def AdvBothSaid : Prop := advBothRow.holds Try.pinned (OpenSpec.ofChange advBothSpec)

/-- ITS FALSE NEIGHBOUR: 'it returns false'. Refute it at one input. -/
def advBothWrong : ChangeSpec := { name := "advBoth", fn := fun _ => fun
  | [d] => { results := [.lit (.bool false)], args := [d] }
  | _ => none }
def AdvBothWrongFalsely : Prop := advBothRow.holds Try.pinned (OpenSpec.ofChange advBothWrong)

/-- 'patchbaykeep2.AdvAnyOrder': WHATEVER THE INPUT: true; the input reads as it did. -/
def advAnyOrderSpec : ChangeSpec := { name := "advAnyOrder", fn := fun _ => fun
  | [d1, d2] => { results := [.lit (.bool true)], args := [d1, d2] }
  | _ => none }
def advAnyOrderRow : OpenClaim := { program := "ytaneaabmgnanbaa", sum := "e33d25f5946c5c29e1a2bc7154d629d949342190a8f1aa566dd1b7586f6ccdf2", func := "patchbay/patchbaykeep2.AdvAnyOrder", spec := "advAnyOrder", unfollowed := true, recurses := true, apart := false }
def AdvAnyOrderSaid : Prop := advAnyOrderRow.holds Try.pinned (OpenSpec.ofChange advAnyOrderSpec)

/-- ITS FALSE NEIGHBOUR: 'it returns false'. Refute it at one input. -/
def advAnyOrderWrong : ChangeSpec := { name := "advAnyOrder", fn := fun _ => fun
  | [d1, d2] => { results := [.lit (.bool false)], args := [d1, d2] }
  | _ => none }
def AdvAnyOrderWrongFalsely : Prop := advAnyOrderRow.holds Try.pinned (OpenSpec.ofChange advAnyOrderWrong)

/-- 'patchbaykeep2.FloodOwn': WHATEVER THE INPUT: true; the input reads as it did. -/
def floodOwnSpec : ChangeSpec := { name := "floodOwn", fn := fun _ => fun
  | [d] => { results := [.lit (.bool true)], args := [d] }
  | _ => none }
def floodOwnRow : OpenClaim := { program := "ytaneaabmgnanbaa", sum := "e33d25f5946c5c29e1a2bc7154d629d949342190a8f1aa566dd1b7586f6ccdf2", func := "patchbay/patchbaykeep2.FloodOwn", spec := "floodOwn", inPlace := ["slices.overlaps[patchbay/api.AdvLink]"], unfollowed := true, recurses := true, apart := false }
def FloodOwnSaid : Prop := floodOwnRow.holds Try.pinned (OpenSpec.ofChange floodOwnSpec)

/-- ITS FALSE NEIGHBOUR: 'it returns false'. Refute it at one input. -/
def floodOwnWrong : ChangeSpec := { name := "floodOwn", fn := fun _ => fun
  | [d] => { results := [.lit (.bool false)], args := [d] }
  | _ => none }
def FloodOwnWrongFalsely : Prop := floodOwnRow.holds Try.pinned (OpenSpec.ofChange floodOwnWrong)

/-- 'patchbaykeep2.FloodTicks': WHATEVER THE INPUT: true; the input reads as it did. -/
def floodTicksSpec : ChangeSpec := { name := "floodTicks", fn := fun _ => fun
  | [d] => { results := [.lit (.bool true)], args := [d] }
  | _ => none }
def floodTicksRow : OpenClaim := { program := "ytaneaabmgnanbaa", sum := "e33d25f5946c5c29e1a2bc7154d629d949342190a8f1aa566dd1b7586f6ccdf2", func := "patchbay/patchbaykeep2.FloodTicks", spec := "floodTicks", inPlace := ["slices.overlaps[patchbay/api.AdvLink]"], unfollowed := true, recurses := true, apart := false }
def FloodTicksSaid : Prop := floodTicksRow.holds Try.pinned (OpenSpec.ofChange floodTicksSpec)

/-- ITS FALSE NEIGHBOUR: 'it returns false'. Refute it at one input. -/
def floodTicksWrong : ChangeSpec := { name := "floodTicks", fn := fun _ => fun
  | [d] => { results := [.lit (.bool false)], args := [d] }
  | _ => none }
def FloodTicksWrongFalsely : Prop := floodTicksRow.holds Try.pinned (OpenSpec.ofChange floodTicksWrong)

/-- 'patchbaykeep2.FloodAgain': WHATEVER THE INPUT: true; the input reads as it did. -/
def floodAgainSpec : ChangeSpec := { name := "floodAgain", fn := fun _ => fun
  | [d] => { results := [.lit (.bool true)], args := [d] }
  | _ => none }
def floodAgainRow : OpenClaim := { program := "ytaneaabmgnanbaa", sum := "e33d25f5946c5c29e1a2bc7154d629d949342190a8f1aa566dd1b7586f6ccdf2", func := "patchbay/patchbaykeep2.FloodAgain", spec := "floodAgain", inPlace := ["slices.overlaps[patchbay/api.AdvLink]"], unfollowed := true, recurses := true, apart := false }
def FloodAgainSaid : Prop := floodAgainRow.holds Try.pinned (OpenSpec.ofChange floodAgainSpec)

/-- ITS FALSE NEIGHBOUR: 'it returns false'. Refute it at one input. -/
def floodAgainWrong : ChangeSpec := { name := "floodAgain", fn := fun _ => fun
  | [d] => { results := [.lit (.bool false)], args := [d] }
  | _ => none }
def FloodAgainWrongFalsely : Prop := floodAgainRow.holds Try.pinned (OpenSpec.ofChange floodAgainWrong)

/-- 'patchbaykeep2.FloodTwo': WHATEVER THE INPUT: true; the input reads as it did. -/
def floodTwoSpec : ChangeSpec := { name := "floodTwo", fn := fun _ => fun
  | [d1, d2] => { results := [.lit (.bool true)], args := [d1, d2] }
  | _ => none }
def floodTwoRow : OpenClaim := { program := "ytaneaabmgnanbaa", sum := "e33d25f5946c5c29e1a2bc7154d629d949342190a8f1aa566dd1b7586f6ccdf2", func := "patchbay/patchbaykeep2.FloodTwo", spec := "floodTwo", inPlace := ["slices.overlaps[patchbay/api.AdvLink]"], unfollowed := true, recurses := true, apart := false }
def FloodTwoSaid : Prop := floodTwoRow.holds Try.pinned (OpenSpec.ofChange floodTwoSpec)

/-- ITS FALSE NEIGHBOUR: 'it returns false'. Refute it at one input. -/
def floodTwoWrong : ChangeSpec := { name := "floodTwo", fn := fun _ => fun
  | [d1, d2] => { results := [.lit (.bool false)], args := [d1, d2] }
  | _ => none }
def FloodTwoWrongFalsely : Prop := floodTwoRow.holds Try.pinned (OpenSpec.ofChange floodTwoWrong)

/-- 'patchbaykeep2.FloodLost': WHATEVER THE INPUT: true; the input reads as it did. -/
def floodLostSpec : ChangeSpec := { name := "floodLost", fn := fun _ => fun
  | [d1, d2] => { results := [.lit (.bool true)], args := [d1, d2] }
  | _ => none }
def floodLostRow : OpenClaim := { program := "ytaneaabmgnanbaa", sum := "e33d25f5946c5c29e1a2bc7154d629d949342190a8f1aa566dd1b7586f6ccdf2", func := "patchbay/patchbaykeep2.FloodLost", spec := "floodLost", inPlace := ["slices.overlaps[patchbay/api.AdvLink]"], unfollowed := true, recurses := true, apart := false }
def FloodLostSaid : Prop := floodLostRow.holds Try.pinned (OpenSpec.ofChange floodLostSpec)

/-- ITS FALSE NEIGHBOUR: 'it returns false'. Refute it at one input. -/
def floodLostWrong : ChangeSpec := { name := "floodLost", fn := fun _ => fun
  | [d1, d2] => { results := [.lit (.bool false)], args := [d1, d2] }
  | _ => none }
def FloodLostWrongFalsely : Prop := floodLostRow.holds Try.pinned (OpenSpec.ofChange floodLostWrong)

/-- 'patchbaykeep2.AdvAges': WHATEVER THE INPUT: true; the input reads as it did. -/
def advAgesSpec : ChangeSpec := { name := "advAges", fn := fun _ => fun
  | [d1, d2, d3] => { results := [.lit (.bool true)], args := [d1, d2, d3] }
  | _ => none }
def advAgesRow : OpenClaim := { program := "ytaneaabmgnanbaa", sum := "e33d25f5946c5c29e1a2bc7154d629d949342190a8f1aa566dd1b7586f6ccdf2", func := "patchbay/patchbaykeep2.AdvAges", spec := "advAges", unfollowed := true, recurses := true, apart := false }
def AdvAgesSaid : Prop := advAgesRow.holds Try.pinned (OpenSpec.ofChange advAgesSpec)

/-- ITS FALSE NEIGHBOUR: 'it returns false'. Refute it at one input. -/
def advAgesWrong : ChangeSpec := { name := "advAges", fn := fun _ => fun
  | [d1, d2, d3] => { results := [.lit (.bool false)], args := [d1, d2, d3] }
  | _ => none }
def AdvAgesWrongFalsely : Prop := advAgesRow.holds Try.pinned (OpenSpec.ofChange advAgesWrong)

/- THE SECOND FORM. 'bulk': how many values and letters a reading holds, each counted each time it is reached (what is shared counts as often as it is met; a slice's spare places count too). A statement '..UptoSaid' is the law's where the arguments, and the package variables that the reading takes, are together of bulk at most 1048576: NARROWER than '..Said'. Prove '..Said' where nothing that the law and all that it calls make is longer than what came in: it says more and counts as full. Else prove '..UptoSaid'. A law counts once. -/
mutual
def uptoBulk {H : Type} : DataW H → Nat
  | .lit (.string bytes) => bytes.length + 1
  | .lit _ => 1
  | .nil => 1
  | .ptr d => uptoBulk d + 1
  | .slice elems spare => uptoBulkAll elems + uptoBulkAll spare + 1
  | .agg parts => uptoBulkAll parts + 1
  | .iface _ d => uptoBulk d + 1
  | .map entries => uptoBulkEntries entries + 1
  | .held _ => 1
def uptoBulkAll {H : Type} : List (DataW H) → Nat
  | [] => 0
  | d :: r => uptoBulk d + uptoBulkAll r
def uptoBulkEntries {H : Type} : List (Lit × DataW H) → Nat
  | [] => 0
  | x :: r => uptoBulkEntry x + uptoBulkEntries r
def uptoBulkEntry {H : Type} : Lit × DataW H → Nat
  | (.string bytes, d) => bytes.length + uptoBulk d + 1
  | (_, d) => uptoBulk d + 1
 end
def uptoSmall : (H : Type) → List (DataW H) → Bool := fun _ ds => decide (uptoBulkAll ds ≤ 1048576)
def OpenSpec.upto (s : _root_.Go.ChangeSpec) : _root_.Go.OpenSpec := { _root_.Go.OpenSpec.ofChange s with cond := some uptoSmall }

/-- 'patchbaykeep2.AdvSpoiled', WHERE WHAT IT READS IS OF BULK AT MOST 1048576: true; the input reads as it did. -/
def advSpoiledUptoRow : OpenClaim := { program := "ytaneaabmgnanbaa", sum := "e33d25f5946c5c29e1a2bc7154d629d949342190a8f1aa566dd1b7586f6ccdf2", func := "patchbay/patchbaykeep2.AdvSpoiled", spec := "advSpoiled", apart := false, narrowed := true }
def AdvSpoiledUptoSaid : Prop := advSpoiledUptoRow.holds Try.pinned (OpenSpec.upto advSpoiledSpec)

/-- 'patchbaykeep2.AdvBack', WHERE WHAT IT READS IS OF BULK AT MOST 1048576: true; the input reads as it did. -/
def advBackUptoRow : OpenClaim := { program := "ytaneaabmgnanbaa", sum := "e33d25f5946c5c29e1a2bc7154d629d949342190a8f1aa566dd1b7586f6ccdf2", func := "patchbay/patchbaykeep2.AdvBack", spec := "advBack", apart := false, narrowed := true }
def AdvBackUptoSaid : Prop := advBackUptoRow.holds Try.pinned (OpenSpec.upto advBackSpec)

/-- 'patchbaykeep2.AdvOrder', WHERE WHAT IT READS IS OF BULK AT MOST 1048576: true; the input reads as it did. -/
def advOrderUptoRow : OpenClaim := { program := "ytaneaabmgnanbaa", sum := "e33d25f5946c5c29e1a2bc7154d629d949342190a8f1aa566dd1b7586f6ccdf2", func := "patchbay/patchbaykeep2.AdvOrder", spec := "advOrder", unfollowed := true, recurses := true, apart := false, narrowed := true }
def AdvOrderUptoSaid : Prop := advOrderUptoRow.holds Try.pinned (OpenSpec.upto advOrderSpec)

/-- 'patchbaykeep2.AdvBoth', WHERE WHAT IT READS IS OF BULK AT MOST 1048576: true; the input reads as it did. -/
def advBothUptoRow : OpenClaim := { program := "ytaneaabmgnanbaa", sum := "e33d25f5946c5c29e1a2bc7154d629d949342190a8f1aa566dd1b7586f6ccdf2", func := "patchbay/patchbaykeep2.AdvBoth", spec := "advBoth", unfollowed := true, recurses := true, apart := false, narrowed := true }
def AdvBothUptoSaid : Prop := advBothUptoRow.holds Try.pinned (OpenSpec.upto advBothSpec)

/-- 'patchbaykeep2.AdvAnyOrder', WHERE WHAT IT READS IS OF BULK AT MOST 1048576: true; the input reads as it did. -/
def advAnyOrderUptoRow : OpenClaim := { program := "ytaneaabmgnanbaa", sum := "e33d25f5946c5c29e1a2bc7154d629d949342190a8f1aa566dd1b7586f6ccdf2", func := "patchbay/patchbaykeep2.AdvAnyOrder", spec := "advAnyOrder", unfollowed := true, recurses := true, apart := false, narrowed := true }
def AdvAnyOrderUptoSaid : Prop := advAnyOrderUptoRow.holds Try.pinned (OpenSpec.upto advAnyOrderSpec)

/-- 'patchbaykeep2.FloodOwn', WHERE WHAT IT READS IS OF BULK AT MOST 1048576: true; the input reads as it did. -/
def floodOwnUptoRow : OpenClaim := { program := "ytaneaabmgnanbaa", sum := "e33d25f5946c5c29e1a2bc7154d629d949342190a8f1aa566dd1b7586f6ccdf2", func := "patchbay/patchbaykeep2.FloodOwn", spec := "floodOwn", inPlace := ["slices.overlaps[patchbay/api.AdvLink]"], unfollowed := true, recurses := true, apart := false, narrowed := true }
def FloodOwnUptoSaid : Prop := floodOwnUptoRow.holds Try.pinned (OpenSpec.upto floodOwnSpec)

/-- 'patchbaykeep2.FloodTicks', WHERE WHAT IT READS IS OF BULK AT MOST 1048576: true; the input reads as it did. -/
def floodTicksUptoRow : OpenClaim := { program := "ytaneaabmgnanbaa", sum := "e33d25f5946c5c29e1a2bc7154d629d949342190a8f1aa566dd1b7586f6ccdf2", func := "patchbay/patchbaykeep2.FloodTicks", spec := "floodTicks", inPlace := ["slices.overlaps[patchbay/api.AdvLink]"], unfollowed := true, recurses := true, apart := false, narrowed := true }
def FloodTicksUptoSaid : Prop := floodTicksUptoRow.holds Try.pinned (OpenSpec.upto floodTicksSpec)

/-- 'patchbaykeep2.FloodAgain', WHERE WHAT IT READS IS OF BULK AT MOST 1048576: true; the input reads as it did. -/
def floodAgainUptoRow : OpenClaim := { program := "ytaneaabmgnanbaa", sum := "e33d25f5946c5c29e1a2bc7154d629d949342190a8f1aa566dd1b7586f6ccdf2", func := "patchbay/patchbaykeep2.FloodAgain", spec := "floodAgain", inPlace := ["slices.overlaps[patchbay/api.AdvLink]"], unfollowed := true, recurses := true, apart := false, narrowed := true }
def FloodAgainUptoSaid : Prop := floodAgainUptoRow.holds Try.pinned (OpenSpec.upto floodAgainSpec)

/-- 'patchbaykeep2.FloodTwo', WHERE WHAT IT READS IS OF BULK AT MOST 1048576: true; the input reads as it did. -/
def floodTwoUptoRow : OpenClaim := { program := "ytaneaabmgnanbaa", sum := "e33d25f5946c5c29e1a2bc7154d629d949342190a8f1aa566dd1b7586f6ccdf2", func := "patchbay/patchbaykeep2.FloodTwo", spec := "floodTwo", inPlace := ["slices.overlaps[patchbay/api.AdvLink]"], unfollowed := true, recurses := true, apart := false, narrowed := true }
def FloodTwoUptoSaid : Prop := floodTwoUptoRow.holds Try.pinned (OpenSpec.upto floodTwoSpec)

/-- 'patchbaykeep2.FloodLost', WHERE WHAT IT READS IS OF BULK AT MOST 1048576: true; the input reads as it did. -/
def floodLostUptoRow : OpenClaim := { program := "ytaneaabmgnanbaa", sum := "e33d25f5946c5c29e1a2bc7154d629d949342190a8f1aa566dd1b7586f6ccdf2", func := "patchbay/patchbaykeep2.FloodLost", spec := "floodLost", inPlace := ["slices.overlaps[patchbay/api.AdvLink]"], unfollowed := true, recurses := true, apart := false, narrowed := true }
def FloodLostUptoSaid : Prop := floodLostUptoRow.holds Try.pinned (OpenSpec.upto floodLostSpec)

/-- 'patchbaykeep2.AdvAges', WHERE WHAT IT READS IS OF BULK AT MOST 1048576: true; the input reads as it did. -/
def advAgesUptoRow : OpenClaim := { program := "ytaneaabmgnanbaa", sum := "e33d25f5946c5c29e1a2bc7154d629d949342190a8f1aa566dd1b7586f6ccdf2", func := "patchbay/patchbaykeep2.AdvAges", spec := "advAges", unfollowed := true, recurses := true, apart := false, narrowed := true }
def AdvAgesUptoSaid : Prop := advAgesUptoRow.holds Try.pinned (OpenSpec.upto advAgesSpec)

end Rows
end Go.Proofs.Ytaneaabmgnanbaa
