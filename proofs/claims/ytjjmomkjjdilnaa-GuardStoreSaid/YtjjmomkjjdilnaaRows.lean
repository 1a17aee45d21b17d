/-
  No cell of these rows narrows 'for every input' (looked for: loops, veiled, ifaces, maps, wideKeys, modest, calm, conditions, laid).
  DERIVED. THE GIVEN ROWS OF THIS SEAT. 7 by the template 'for every input the law returns true; each argument reads behind the call as it read before'; 0 by the template 'total and deterministic' (their statements: YtjjmomkjjdilnaaTotals.lean).
  GIVEN WITH THE SEED: the statements are not yours to turn. If you find one false, say at which input.
  Laid BY PROGRAM, IN A SANDBOX (cutbox-rows.mjs): the forced cells as the released guide's own fill.sh prints them over the translation 072849ff10d05378… (all of the seat's roots in one cut). By AI agents, Wed Nov 11 2026. No macro, syntax, notation, axiom, sorry.
-/
import Derived.Test.YtjjmomkjjdilnaaChecked
import GoSem.Claim
import GoSem.ClaimJoined
import GoSem.ClaimMapViews
import Derived.JoinedTies
import Derived.KernelRfl
namespace Go.Proofs.Ytjjmomkjjdilnaa
/- THE CELL 'sum', in the pinned program and in every row, IS THE sha256 OF THE DUMP (.gsa) THAT YtjjmomkjjdilnaaProg.lean LOADS. Nothing in Lean hashes anything: it is a label: what it is worth is what the hold of that sum in a sandbox is worth. -/
noncomputable def Try.pinned : Pinned := { name := "ytjjmomkjjdilnaa", sum := "072849ff10d05378383ce96444e371211eeaf4a31107dff018f69a42bda62994", checked := Try.checked }
namespace Rows
def none {H : Type} : Left H := { results := [], args := [] }

/-- 'rejoinderlaw14.GuardStore': WHATEVER THE INPUT: true; the input reads as it did. -/
def guardStoreSpec : ChangeSpec := { name := "guardStore", fn := fun _ => fun
  | [d1, d2] => { results := [.lit (.bool true)], args := [d1, d2] }
  | _ => none }
def guardStoreRow : OpenClaim := { program := "ytjjmomkjjdilnaa", sum := "072849ff10d05378383ce96444e371211eeaf4a31107dff018f69a42bda62994", func := "rejoinder/rejoinderlaw14.GuardStore", spec := "guardStore", unfollowed := true, recurses := true, plainKeys := false, apart := false }
def GuardStoreSaid : Prop := guardStoreRow.holds Try.pinned (OpenSpec.ofChange guardStoreSpec)

/-- ITS FALSE NEIGHBOUR: 'it returns false'. Refute it at one input. -/
def guardStoreWrong : ChangeSpec := { name := "guardStore", fn := fun _ => fun
  | [d1, d2] => { results := [.lit (.bool false)], args := [d1, d2] }
  | _ => none }
def GuardStoreWrongFalsely : Prop := guardStoreRow.holds Try.pinned (OpenSpec.ofChange guardStoreWrong)

/-- 'rejoinderlaw28.NearTells': WHATEVER THE INPUT: true; the input reads as it did. -/
def nearTellsSpec : ChangeSpec := { name := "nearTells", fn := fun _ => fun
  | [d1, d2] => { results := [.lit (.bool true)], args := [d1, d2] }
  | _ => none }
def nearTellsRow : OpenClaim := { program := "ytjjmomkjjdilnaa", sum := "072849ff10d05378383ce96444e371211eeaf4a31107dff018f69a42bda62994", func := "rejoinder/rejoinderlaw28.NearTells", spec := "nearTells", plainKeys := false, apart := false }
def NearTellsSaid : Prop := nearTellsRow.holds Try.pinned (OpenSpec.ofChange nearTellsSpec)

/-- ITS FALSE NEIGHBOUR: 'it returns false'. Refute it at one input. -/
def nearTellsWrong : ChangeSpec := { name := "nearTells", fn := fun _ => fun
  | [d1, d2] => { results := [.lit (.bool false)], args := [d1, d2] }
  | _ => none }
def NearTellsWrongFalsely : Prop := nearTellsRow.holds Try.pinned (OpenSpec.ofChange nearTellsWrong)

/-- 'rejoinderlaw16.PartTells': WHATEVER THE INPUT: true; the input reads as it did. -/
def partTellsSpec : ChangeSpec := { name := "partTells", fn := fun _ => fun
  | [d1, d2, d3] => { results := [.lit (.bool true)], args := [d1, d2, d3] }
  | _ => none }
def partTellsRow : OpenClaim := { program := "ytjjmomkjjdilnaa", sum := "072849ff10d05378383ce96444e371211eeaf4a31107dff018f69a42bda62994", func := "rejoinder/rejoinderlaw16.PartTells", spec := "partTells", plainKeys := false, apart := false }
def PartTellsSaid : Prop := partTellsRow.holds Try.pinned (OpenSpec.ofChange partTellsSpec)

/-- ITS FALSE NEIGHBOUR: 'it returns false'. Refute it at one input. -/
def partTellsWrong : ChangeSpec := { name := "partTells", fn := fun _ => fun
  | [d1, d2, d3] => { results := [.lit (.bool false)], args := [d1, d2, d3] }
  | _ => none }
def PartTellsWrongFalsely : Prop := partTellsRow.holds Try.pinned (OpenSpec.ofChange partTellsWrong)

/-- 'rejoinderlaw21.WatchScript': WHATEVER THE INPUT: true; the input reads as it did. -/
def watchScriptSpec : ChangeSpec := { name := "watchScript", fn := fun _ => fun
  | [d1, d2] => { results := [.lit (.bool true)], args := [d1, d2] }
  | _ => none }
def watchScriptRow : OpenClaim := { program := "ytjjmomkjjdilnaa", sum := "072849ff10d05378383ce96444e371211eeaf4a31107dff018f69a42bda62994", func := "rejoinder/rejoinderlaw21.WatchScript", spec := "watchScript", plainKeys := false, apart := false }
def WatchScriptSaid : Prop := watchScriptRow.holds Try.pinned (OpenSpec.ofChange watchScriptSpec)

/-- ITS FALSE NEIGHBOUR: 'it returns false'. Refute it at one input. -/
def watchScriptWrong : ChangeSpec := { name := "watchScript", fn := fun _ => fun
  | [d1, d2] => { results := [.lit (.bool false)], args := [d1, d2] }
  | _ => none }
def WatchScriptWrongFalsely : Prop := watchScriptRow.holds Try.pinned (OpenSpec.ofChange watchScriptWrong)

/-- 'rejoinderlaw17.CanonMin': WHATEVER THE INPUT: true; the input reads as it did. -/
def canonMinSpec : ChangeSpec := { name := "canonMin", fn := fun _ => fun
  | [d1, d2] => { results := [.lit (.bool true)], args := [d1, d2] }
  | _ => none }
def canonMinRow : OpenClaim := { program := "ytjjmomkjjdilnaa", sum := "072849ff10d05378383ce96444e371211eeaf4a31107dff018f69a42bda62994", func := "rejoinder/rejoinderlaw17.CanonMin", spec := "canonMin", unfollowed := true, recurses := true, plainKeys := false, apart := false }
def CanonMinSaid : Prop := canonMinRow.holds Try.pinned (OpenSpec.ofChange canonMinSpec)

/-- ITS FALSE NEIGHBOUR: 'it returns false'. Refute it at one input. -/
def canonMinWrong : ChangeSpec := { name := "canonMin", fn := fun _ => fun
  | [d1, d2] => { results := [.lit (.bool false)], args := [d1, d2] }
  | _ => none }
def CanonMinWrongFalsely : Prop := canonMinRow.holds Try.pinned (OpenSpec.ofChange canonMinWrong)

/-- 'rejoinderlaw20.BothPuts': WHATEVER THE INPUT: true; the input reads as it did. -/
def bothPutsSpec : ChangeSpec := { name := "bothPuts", fn := fun _ => fun
  | [d1, d2] => { results := [.lit (.bool true)], args := [d1, d2] }
  | _ => none }
def bothPutsRow : OpenClaim := { program := "ytjjmomkjjdilnaa", sum := "072849ff10d05378383ce96444e371211eeaf4a31107dff018f69a42bda62994", func := "rejoinder/rejoinderlaw20.BothPuts", spec := "bothPuts", unfollowed := true, recurses := true, plainKeys := false, apart := false }
def BothPutsSaid : Prop := bothPutsRow.holds Try.pinned (OpenSpec.ofChange bothPutsSpec)

/-- ITS FALSE NEIGHBOUR: 'it returns false'. Refute it at one input. -/
def bothPutsWrong : ChangeSpec := { name := "bothPuts", fn := fun _ => fun
  | [d1, d2] => { results := [.lit (.bool false)], args := [d1, d2] }
  | _ => none }
def BothPutsWrongFalsely : Prop := bothPutsRow.holds Try.pinned (OpenSpec.ofChange bothPutsWrong)

/-- 'rejoinderlaw20.BothParts': WHATEVER THE INPUT: true; the input reads as it did. -/
def bothPartsSpec : ChangeSpec := { name := "bothParts", fn := fun _ => fun
  | [d1, d2] => { results := [.lit (.bool true)], args := [d1, d2] }
  | _ => none }
def bothPartsRow : OpenClaim := { program := "ytjjmomkjjdilnaa", sum := "072849ff10d05378383ce96444e371211eeaf4a31107dff018f69a42bda62994", func := "rejoinder/rejoinderlaw20.BothParts", spec := "bothParts", unfollowed := true, recurses := true, plainKeys := false, apart := false }
def BothPartsSaid : Prop := bothPartsRow.holds Try.pinned (OpenSpec.ofChange bothPartsSpec)

/-- ITS FALSE NEIGHBOUR: 'it returns false'. Refute it at one input. -/
def bothPartsWrong : ChangeSpec := { name := "bothParts", fn := fun _ => fun
  | [d1, d2] => { results := [.lit (.bool false)], args := [d1, d2] }
  | _ => none }
def BothPartsWrongFalsely : Prop := bothPartsRow.holds Try.pinned (OpenSpec.ofChange bothPartsWrong)

/- THE SECOND FORM. 'bulk': how many values and letters a reading holds, each counted each time it is reached (what is shared counts as often as it is met; a slice's spare places count too). A statement '..UptoSaid' is the law's where the arguments, and the package variables that the reading takes, are together of bulk at most 1048576: NARROWER than '..Said'. Prove '..Said' where nothing that the law and all that it calls make is longer than what came in: it says more and counts as full. Else prove '..UptoSaid'. A law counts once. -/
mutual
def uptoBulk {H : Type} : DataW H → Nat
  | .lit (.string bytes) => bytes.length + 1
  | .lit _ => 1
  | .nil => 1
  | .ptr d => uptoBulk d + 1
  | .slice elems spare => uptoBulkAll elems + uptoBulkAll spare + 1
  | .agg parts => uptoBulkAll parts + 1
  | .iface _ d => uptoBulk d + 1
  | .map entries => uptoBulkEntries entries + 1
  | .held _ => 1
def uptoBulkAll {H : Type} : List (DataW H) → Nat
  | [] => 0
  | d :: r => uptoBulk d + uptoBulkAll r
def uptoBulkEntries {H : Type} : List (Lit × DataW H) → Nat
  | [] => 0
  | x :: r => uptoBulkEntry x + uptoBulkEntries r
def uptoBulkEntry {H : Type} : Lit × DataW H → Nat
  | (.string bytes, d) => bytes.length + uptoBulk d + 1
  | (_, d) => uptoBulk d + 1
 end
def uptoSmall : (H : Type) → List (DataW H) → Bool := fun _ ds => decide (uptoBulkAll ds ≤ 1048576)
def OpenSpec.upto (s : _root_.Go.ChangeSpec) : _root_.Go.OpenSpec := { _root_.Go.OpenSpec.ofChange s with cond := some uptoSmall }

/-- 'rejoinderlaw14.GuardStore', WHERE WHAT IT READS IS OF BULK AT MOST 1048576: true; the input reads as it did. -/
def guardStoreUptoRow : OpenClaim := { program := "ytjjmomkjjdilnaa", sum := "072849ff10d05378383ce96444e371211eeaf4a31107dff018f69a42bda62994", func := "rejoinder/rejoinderlaw14.GuardStore", spec := "guardStore", unfollowed := true, recurses := true, plainKeys := false, apart := false, narrowed := true }
def GuardStoreUptoSaid : Prop := guardStoreUptoRow.holds Try.pinned (OpenSpec.upto guardStoreSpec)

/-- 'rejoinderlaw28.NearTells', WHERE WHAT IT READS IS OF BULK AT MOST 1048576: true; the input reads as it did. -/
def nearTellsUptoRow : OpenClaim := { program := "ytjjmomkjjdilnaa", sum := "072849ff10d05378383ce96444e371211eeaf4a31107dff018f69a42bda62994", func := "rejoinder/rejoinderlaw28.NearTells", spec := "nearTells", plainKeys := false, apart := false, narrowed := true }
def NearTellsUptoSaid : Prop := nearTellsUptoRow.holds Try.pinned (OpenSpec.upto nearTellsSpec)

/-- 'rejoinderlaw16.PartTells', WHERE WHAT IT READS IS OF BULK AT MOST 1048576: true; the input reads as it did. -/
def partTellsUptoRow : OpenClaim := { program := "ytjjmomkjjdilnaa", sum := "072849ff10d05378383ce96444e371211eeaf4a31107dff018f69a42bda62994", func := "rejoinder/rejoinderlaw16.PartTells", spec := "partTells", plainKeys := false, apart := false, narrowed := true }
def PartTellsUptoSaid : Prop := partTellsUptoRow.holds Try.pinned (OpenSpec.upto partTellsSpec)

/-- 'rejoinderlaw21.WatchScript', WHERE WHAT IT READS IS OF BULK AT MOST 1048576: true; the input reads as it did. -/
def watchScriptUptoRow : OpenClaim := { program := "ytjjmomkjjdilnaa", sum := "072849ff10d05378383ce96444e371211eeaf4a31107dff018f69a42bda62994", func := "rejoinder/rejoinderlaw21.WatchScript", spec := "watchScript", plainKeys := false, apart := false, narrowed := true }
def WatchScriptUptoSaid : Prop := watchScriptUptoRow.holds Try.pinned (OpenSpec.upto watchScriptSpec)

/-- 'rejoinderlaw17.CanonMin', WHERE WHAT IT READS IS OF BULK AT MOST 1048576: true; the input reads as it did. -/
def canonMinUptoRow : OpenClaim := { program := "ytjjmomkjjdilnaa", sum := "072849ff10d05378383ce96444e371211eeaf4a31107dff018f69a42bda62994", func := "rejoinder/rejoinderlaw17.CanonMin", spec := "canonMin", unfollowed := true, recurses := true, plainKeys := false, apart := false, narrowed := true }
def CanonMinUptoSaid : Prop := canonMinUptoRow.holds Try.pinned (OpenSpec.upto canonMinSpec)

/-- 'rejoinderlaw20.BothPuts', WHERE WHAT IT READS IS OF BULK AT MOST 1048576: true; the input reads as it did. -/
def bothPutsUptoRow : OpenClaim := { program := "ytjjmomkjjdilnaa", sum := "072849ff10d05378383ce96444e371211eeaf4a31107dff018f69a42bda62994", func := "rejoinder/rejoinderlaw20.BothPuts", spec := "bothPuts", unfollowed := true, recurses := true, plainKeys := false, apart := false, narrowed := true }
def BothPutsUptoSaid : Prop := bothPutsUptoRow.holds Try.pinned (OpenSpec.upto bothPutsSpec)

/-- 'rejoinderlaw20.BothParts', WHERE WHAT IT READS IS OF BULK AT MOST 1048576: true; the input reads as it did. -/
def bothPartsUptoRow : OpenClaim := { program := "ytjjmomkjjdilnaa", sum := "072849ff10d05378383ce96444e371211eeaf4a31107dff018f69a42bda62994", func := "rejoinder/rejoinderlaw20.BothParts", spec := "bothParts", unfollowed := true, recurses := true, plainKeys := false, apart := false, narrowed := true }
def BothPartsUptoSaid : Prop := bothPartsUptoRow.holds Try.pinned (OpenSpec.upto bothPartsSpec)

end Rows
end Go.Proofs.Ytjjmomkjjdilnaa
