/-
  No cell of these rows narrows 'for every input' (looked for: loops, veiled, ifaces, maps, wideKeys, modest, calm, conditions, laid).
  DERIVED. THE GIVEN ROWS OF THIS SEAT. 10 by the template 'for every input the law returns true; each argument reads behind the call as it read before'; 0 by the template 'total and deterministic' (their statements: YtpefmgmhclbcbaaTotals.lean).
  GIVEN WITH THE SEED: the statements are not yours to turn. If you find one false, say at which input.
  Laid BY PROGRAM, IN A SANDBOX (cutbox-rows.mjs): the forced cells as the released guide's own fill.sh prints them over the translation 0c7185e7fae0114e… (all of the seat's roots in one cut). By AI agents, Wed Nov 11 2026. No macro, syntax, notation, axiom, sorry.
-/
import Derived.Test.YtpefmgmhclbcbaaChecked
import GoSem.Claim
import GoSem.ClaimJoined
import GoSem.ClaimMapViews
import Derived.JoinedTies
import Derived.KernelRfl
namespace Go.Proofs.Ytpefmgmhclbcbaa
/- THE CELL 'sum', in the pinned program and in every row, IS THE sha256 OF THE DUMP (.gsa) THAT YtpefmgmhclbcbaaProg.lean LOADS. Nothing in Lean hashes anything: it is a label: what it is worth is what the hold of that sum in a sandbox is worth. -/
noncomputable def Try.pinned : Pinned := { name := "ytpefmgmhclbcbaa", sum := "0c7185e7fae0114e0b11bfdcda473a46a56171af9423675c2192ebc0bf308ce3", checked := Try.checked }
namespace Rows
def none {H : Type} : Left H := { results := [], args := [] }

/-- 'davitlaw23.IdleChooses': WHATEVER THE INPUT: true; the input reads as it did. -/
def idleChoosesSpec : ChangeSpec := { name := "idleChooses", fn := fun _ => fun
  | [d1, d2, d3, d4] => { results := [.lit (.bool true)], args := [d1, d2, d3, d4] }
  | _ => none }
def idleChoosesRow : OpenClaim := { program := "ytpefmgmhclbcbaa", sum := "0c7185e7fae0114e0b11bfdcda473a46a56171af9423675c2192ebc0bf308ce3", func := "davit/davitlaw23.IdleChooses", spec := "idleChooses", apart := false }
def IdleChoosesSaid : Prop := idleChoosesRow.holds Try.pinned (OpenSpec.ofChange idleChoosesSpec)

/-- ITS FALSE NEIGHBOUR: 'it returns false'. Refute it at one input. -/
def idleChoosesWrong : ChangeSpec := { name := "idleChooses", fn := fun _ => fun
  | [d1, d2, d3, d4] => { results := [.lit (.bool false)], args := [d1, d2, d3, d4] }
  | _ => none }
def IdleChoosesWrongFalsely : Prop := idleChoosesRow.holds Try.pinned (OpenSpec.ofChange idleChoosesWrong)

/-- 'davitlaw23.IdlePredicts': WHATEVER THE INPUT: true; the input reads as it did. -/
def idlePredictsSpec : ChangeSpec := { name := "idlePredicts", fn := fun _ => fun
  | [d1, d2, d3] => { results := [.lit (.bool true)], args := [d1, d2, d3] }
  | _ => none }
def idlePredictsRow : OpenClaim := { program := "ytpefmgmhclbcbaa", sum := "0c7185e7fae0114e0b11bfdcda473a46a56171af9423675c2192ebc0bf308ce3", func := "davit/davitlaw23.IdlePredicts", spec := "idlePredicts", apart := false }
def IdlePredictsSaid : Prop := idlePredictsRow.holds Try.pinned (OpenSpec.ofChange idlePredictsSpec)

/-- ITS FALSE NEIGHBOUR: 'it returns false'. Refute it at one input. -/
def idlePredictsWrong : ChangeSpec := { name := "idlePredicts", fn := fun _ => fun
  | [d1, d2, d3] => { results := [.lit (.bool false)], args := [d1, d2, d3] }
  | _ => none }
def IdlePredictsWrongFalsely : Prop := idlePredictsRow.holds Try.pinned (OpenSpec.ofChange idlePredictsWrong)

/-- 'davitlaw23.IdleRight': WHATEVER THE INPUT: true; the input reads as it did. -/
def idleRightSpec : ChangeSpec := { name := "idleRight", fn := fun _ => fun
  | [d1, d2, d3, d4] => { results := [.lit (.bool true)], args := [d1, d2, d3, d4] }
  | _ => none }
def idleRightRow : OpenClaim := { program := "ytpefmgmhclbcbaa", sum := "0c7185e7fae0114e0b11bfdcda473a46a56171af9423675c2192ebc0bf308ce3", func := "davit/davitlaw23.IdleRight", spec := "idleRight", apart := false }
def IdleRightSaid : Prop := idleRightRow.holds Try.pinned (OpenSpec.ofChange idleRightSpec)

/-- ITS FALSE NEIGHBOUR: 'it returns false'. Refute it at one input. -/
def idleRightWrong : ChangeSpec := { name := "idleRight", fn := fun _ => fun
  | [d1, d2, d3, d4] => { results := [.lit (.bool false)], args := [d1, d2, d3, d4] }
  | _ => none }
def IdleRightWrongFalsely : Prop := idleRightRow.holds Try.pinned (OpenSpec.ofChange idleRightWrong)

/-- 'davitlaw26.WireBack': WHATEVER THE INPUT: true; the input reads as it did. -/
def wireBackSpec : ChangeSpec := { name := "wireBack", fn := fun _ => fun
  | [d1, d2] => { results := [.lit (.bool true)], args := [d1, d2] }
  | _ => none }
def wireBackRow : OpenClaim := { program := "ytpefmgmhclbcbaa", sum := "0c7185e7fae0114e0b11bfdcda473a46a56171af9423675c2192ebc0bf308ce3", func := "davit/davitlaw26.WireBack", spec := "wireBack", apart := false }
def WireBackSaid : Prop := wireBackRow.holds Try.pinned (OpenSpec.ofChange wireBackSpec)

/-- ITS FALSE NEIGHBOUR: 'it returns false'. Refute it at one input. -/
def wireBackWrong : ChangeSpec := { name := "wireBack", fn := fun _ => fun
  | [d1, d2] => { results := [.lit (.bool false)], args := [d1, d2] }
  | _ => none }
def WireBackWrongFalsely : Prop := wireBackRow.holds Try.pinned (OpenSpec.ofChange wireBackWrong)

/-- 'davitlaw27.CoreNext': WHATEVER THE INPUT: true; the input reads as it did. -/
def coreNextSpec : ChangeSpec := { name := "coreNext", fn := fun _ => fun
  | [d1, d2] => { results := [.lit (.bool true)], args := [d1, d2] }
  | _ => none }
def coreNextRow : OpenClaim := { program := "ytpefmgmhclbcbaa", sum := "0c7185e7fae0114e0b11bfdcda473a46a56171af9423675c2192ebc0bf308ce3", func := "davit/davitlaw27.CoreNext", spec := "coreNext", apart := false }
def CoreNextSaid : Prop := coreNextRow.holds Try.pinned (OpenSpec.ofChange coreNextSpec)

/-- ITS FALSE NEIGHBOUR: 'it returns false'. Refute it at one input. -/
def coreNextWrong : ChangeSpec := { name := "coreNext", fn := fun _ => fun
  | [d1, d2] => { results := [.lit (.bool false)], args := [d1, d2] }
  | _ => none }
def CoreNextWrongFalsely : Prop := coreNextRow.holds Try.pinned (OpenSpec.ofChange coreNextWrong)

/-- 'davitlaw27.CoreStill': WHATEVER THE INPUT: true; the input reads as it did. -/
def coreStillSpec : ChangeSpec := { name := "coreStill", fn := fun _ => fun
  | [d1, d2] => { results := [.lit (.bool true)], args := [d1, d2] }
  | _ => none }
def coreStillRow : OpenClaim := { program := "ytpefmgmhclbcbaa", sum := "0c7185e7fae0114e0b11bfdcda473a46a56171af9423675c2192ebc0bf308ce3", func := "davit/davitlaw27.CoreStill", spec := "coreStill", apart := false }
def CoreStillSaid : Prop := coreStillRow.holds Try.pinned (OpenSpec.ofChange coreStillSpec)

/-- ITS FALSE NEIGHBOUR: 'it returns false'. Refute it at one input. -/
def coreStillWrong : ChangeSpec := { name := "coreStill", fn := fun _ => fun
  | [d1, d2] => { results := [.lit (.bool false)], args := [d1, d2] }
  | _ => none }
def CoreStillWrongFalsely : Prop := coreStillRow.holds Try.pinned (OpenSpec.ofChange coreStillWrong)

/-- 'davitlaw26.WirePuts': WHATEVER THE INPUT: true; the input reads as it did. -/
def wirePutsSpec : ChangeSpec := { name := "wirePuts", fn := fun _ => fun
  | [d] => { results := [.lit (.bool true)], args := [d] }
  | _ => none }
def wirePutsRow : OpenClaim := { program := "ytpefmgmhclbcbaa", sum := "0c7185e7fae0114e0b11bfdcda473a46a56171af9423675c2192ebc0bf308ce3", func := "davit/davitlaw26.WirePuts", spec := "wirePuts", apart := false }
def WirePutsSaid : Prop := wirePutsRow.holds Try.pinned (OpenSpec.ofChange wirePutsSpec)

/-- ITS FALSE NEIGHBOUR: 'it returns false'. Refute it at one input. -/
def wirePutsWrong : ChangeSpec := { name := "wirePuts", fn := fun _ => fun
  | [d] => { results := [.lit (.bool false)], args := [d] }
  | _ => none }
def WirePutsWrongFalsely : Prop := wirePutsRow.holds Try.pinned (OpenSpec.ofChange wirePutsWrong)

/-- 'davitlaw26.WireOnce': WHATEVER THE INPUT: true; the input reads as it did. -/
def wireOnceSpec : ChangeSpec := { name := "wireOnce", fn := fun _ => fun
  | [d] => { results := [.lit (.bool true)], args := [d] }
  | _ => none }
def wireOnceRow : OpenClaim := { program := "ytpefmgmhclbcbaa", sum := "0c7185e7fae0114e0b11bfdcda473a46a56171af9423675c2192ebc0bf308ce3", func := "davit/davitlaw26.WireOnce", spec := "wireOnce", apart := false }
def WireOnceSaid : Prop := wireOnceRow.holds Try.pinned (OpenSpec.ofChange wireOnceSpec)

/-- ITS FALSE NEIGHBOUR: 'it returns false'. Refute it at one input. -/
def wireOnceWrong : ChangeSpec := { name := "wireOnce", fn := fun _ => fun
  | [d] => { results := [.lit (.bool false)], args := [d] }
  | _ => none }
def WireOnceWrongFalsely : Prop := wireOnceRow.holds Try.pinned (OpenSpec.ofChange wireOnceWrong)

/-- 'davitlaw27.CorePlays': WHATEVER THE INPUT: true; the input reads as it did. -/
def corePlaysSpec : ChangeSpec := { name := "corePlays", fn := fun _ => fun
  | [d1, d2] => { results := [.lit (.bool true)], args := [d1, d2] }
  | _ => none }
def corePlaysRow : OpenClaim := { program := "ytpefmgmhclbcbaa", sum := "0c7185e7fae0114e0b11bfdcda473a46a56171af9423675c2192ebc0bf308ce3", func := "davit/davitlaw27.CorePlays", spec := "corePlays", apart := false }
def CorePlaysSaid : Prop := corePlaysRow.holds Try.pinned (OpenSpec.ofChange corePlaysSpec)

/-- ITS FALSE NEIGHBOUR: 'it returns false'. Refute it at one input. -/
def corePlaysWrong : ChangeSpec := { name := "corePlays", fn := fun _ => fun
  | [d1, d2] => { results := [.lit (.bool false)], args := [d1, d2] }
  | _ => none }
def CorePlaysWrongFalsely : Prop := corePlaysRow.holds Try.pinned (OpenSpec.ofChange corePlaysWrong)

/-- 'davitlaw27.CoreNil': WHATEVER THE INPUT: true; the input reads as it did. -/
def coreNilSpec : ChangeSpec := { name := "coreNil", fn := fun _ => fun
  | [d1, d2] => { results := [.lit (.bool true)], args := [d1, d2] }
  | _ => none }
def coreNilRow : OpenClaim := { program := "ytpefmgmhclbcbaa", sum := "0c7185e7fae0114e0b11bfdcda473a46a56171af9423675c2192ebc0bf308ce3", func := "davit/davitlaw27.CoreNil", spec := "coreNil", apart := false }
def CoreNilSaid : Prop := coreNilRow.holds Try.pinned (OpenSpec.ofChange coreNilSpec)

/-- ITS FALSE NEIGHBOUR: 'it returns false'. Refute it at one input. -/
def coreNilWrong : ChangeSpec := { name := "coreNil", fn := fun _ => fun
  | [d1, d2] => { results := [.lit (.bool false)], args := [d1, d2] }
  | _ => none }
def CoreNilWrongFalsely : Prop := coreNilRow.holds Try.pinned (OpenSpec.ofChange coreNilWrong)

/- THE SECOND FORM. 'bulk': how many values and letters a reading holds, each counted each time it is reached (what is shared counts as often as it is met; a slice's spare places count too). A statement '..UptoSaid' is the law's where the arguments, and the package variables that the reading takes, are together of bulk at most 1048576: NARROWER than '..Said'. Prove '..Said' where nothing that the law and all that it calls make is longer than what came in: it says more and counts as full. Else prove '..UptoSaid'. A law counts once. -/
mutual
def uptoBulk {H : Type} : DataW H → Nat
  | .lit (.string bytes) => bytes.length + 1
  | .lit _ => 1
  | .nil => 1
  | .ptr d => uptoBulk d + 1
  | .slice elems spare => uptoBulkAll elems + uptoBulkAll spare + 1
  | .agg parts => uptoBulkAll parts + 1
  | .iface _ d => uptoBulk d + 1
  | .map entries => uptoBulkEntries entries + 1
  | .held _ => 1
def uptoBulkAll {H : Type} : List (DataW H) → Nat
  | [] => 0
  | d :: r => uptoBulk d + uptoBulkAll r
def uptoBulkEntries {H : Type} : List (Lit × DataW H) → Nat
  | [] => 0
  | x :: r => uptoBulkEntry x + uptoBulkEntries r
def uptoBulkEntry {H : Type} : Lit × DataW H → Nat
  | (.string bytes, d) => bytes.length + uptoBulk d + 1
  | (_, d) => uptoBulk d + 1
 end
def uptoSmall : (H : Type) → List (DataW H) → Bool := fun _ ds => decide (uptoBulkAll ds ≤ 1048576)
def OpenSpec.upto (s : _root_.Go.ChangeSpec) : _root_.Go.OpenSpec := { _root_.Go.OpenSpec.ofChange s with cond := some uptoSmall }

/-- 'davitlaw23.IdleChooses', WHERE WHAT IT READS IS OF BULK AT MOST 1048576: true; the input reads as it did. -/
def idleChoosesUptoRow : OpenClaim := { program := "ytpefmgmhclbcbaa", sum := "0c7185e7fae0114e0b11bfdcda473a46a56171af9423675c2192ebc0bf308ce3", func := "davit/davitlaw23.IdleChooses", spec := "idleChooses", apart := false, narrowed := true }
def IdleChoosesUptoSaid : Prop := idleChoosesUptoRow.holds Try.pinned (OpenSpec.upto idleChoosesSpec)

/-- 'davitlaw23.IdlePredicts', WHERE WHAT IT READS IS OF BULK AT MOST 1048576: true; the input reads as it did. -/
def idlePredictsUptoRow : OpenClaim := { program := "ytpefmgmhclbcbaa", sum := "0c7185e7fae0114e0b11bfdcda473a46a56171af9423675c2192ebc0bf308ce3", func := "davit/davitlaw23.IdlePredicts", spec := "idlePredicts", apart := false, narrowed := true }
def IdlePredictsUptoSaid : Prop := idlePredictsUptoRow.holds Try.pinned (OpenSpec.upto idlePredictsSpec)

/-- 'davitlaw23.IdleRight', WHERE WHAT IT READS IS OF BULK AT MOST 1048576: true; the input reads as it did. -/
def idleRightUptoRow : OpenClaim := { program := "ytpefmgmhclbcbaa", sum := "0c7185e7fae0114e0b11bfdcda473a46a56171af9423675c2192ebc0bf308ce3", func := "davit/davitlaw23.IdleRight", spec := "idleRight", apart := false, narrowed := true }
def IdleRightUptoSaid : Prop := idleRightUptoRow.holds Try.pinned (OpenSpec.upto idleRightSpec)

/-- 'davitlaw26.WireBack', WHERE WHAT IT READS IS OF BULK AT MOST 1048576: true; the input reads as it did. -/
def wireBackUptoRow : OpenClaim := { program := "ytpefmgmhclbcbaa", sum := "0c7185e7fae0114e0b11bfdcda473a46a56171af9423675c2192ebc0bf308ce3", func := "davit/davitlaw26.WireBack", spec := "wireBack", apart := false, narrowed := true }
def WireBackUptoSaid : Prop := wireBackUptoRow.holds Try.pinned (OpenSpec.upto wireBackSpec)

/-- 'davitlaw27.CoreNext', WHERE WHAT IT READS IS OF BULK AT MOST 1048576: true; the input reads as it did. -/
def coreNextUptoRow : OpenClaim := { program := "ytpefmgmhclbcbaa", sum := "0c7185e7fae0114e0b11bfdcda473a46a56171af9423675c2192ebc0bf308ce3", func := "davit/davitlaw27.CoreNext", spec := "coreNext", apart := false, narrowed := true }
def CoreNextUptoSaid : Prop := coreNextUptoRow.holds Try.pinned (OpenSpec.upto coreNextSpec)

/-- 'davitlaw27.CoreStill', WHERE WHAT IT READS IS OF BULK AT MOST 1048576: true; the input reads as it did. -/
def coreStillUptoRow : OpenClaim := { program := "ytpefmgmhclbcbaa", sum := "0c7185e7fae0114e0b11bfdcda473a46a56171af9423675c2192ebc0bf308ce3", func := "davit/davitlaw27.CoreStill", spec := "coreStill", apart := false, narrowed := true }
def CoreStillUptoSaid : Prop := coreStillUptoRow.holds Try.pinned (OpenSpec.upto coreStillSpec)

/-- 'davitlaw26.WirePuts', WHERE WHAT IT READS IS OF BULK AT MOST 1048576: true; the input reads as it did. -/
def wirePutsUptoRow : OpenClaim := { program := "ytpefmgmhclbcbaa", sum := "0c7185e7fae0114e0b11bfdcda473a46a56171af9423675c2192ebc0bf308ce3", func := "davit/davitlaw26.WirePuts", spec := "wirePuts", apart := false, narrowed := true }
def WirePutsUptoSaid : Prop := wirePutsUptoRow.holds Try.pinned (OpenSpec.upto wirePutsSpec)

/-- 'davitlaw26.WireOnce', WHERE WHAT IT READS IS OF BULK AT MOST 1048576: true; the input reads as it did. -/
def wireOnceUptoRow : OpenClaim := { program := "ytpefmgmhclbcbaa", sum := "0c7185e7fae0114e0b11bfdcda473a46a56171af9423675c2192ebc0bf308ce3", func := "davit/davitlaw26.WireOnce", spec := "wireOnce", apart := false, narrowed := true }
def WireOnceUptoSaid : Prop := wireOnceUptoRow.holds Try.pinned (OpenSpec.upto wireOnceSpec)

/-- 'davitlaw27.CorePlays', WHERE WHAT IT READS IS OF BULK AT MOST 1048576: true; the input reads as it did. -/
def corePlaysUptoRow : OpenClaim := { program := "ytpefmgmhclbcbaa", sum := "0c7185e7fae0114e0b11bfdcda473a46a56171af9423675c2192ebc0bf308ce3", func := "davit/davitlaw27.CorePlays", spec := "corePlays", apart := false, narrowed := true }
def CorePlaysUptoSaid : Prop := corePlaysUptoRow.holds Try.pinned (OpenSpec.upto corePlaysSpec)

/-- 'davitlaw27.CoreNil', WHERE WHAT IT READS IS OF BULK AT MOST 1048576: true; the input reads as it did. -/
def coreNilUptoRow : OpenClaim := { program := "ytpefmgmhclbcbaa", sum := "0c7185e7fae0114e0b11bfdcda473a46a56171af9423675c2192ebc0bf308ce3", func := "davit/davitlaw27.CoreNil", spec := "coreNil", apart := false, narrowed := true }
def CoreNilUptoSaid : Prop := coreNilUptoRow.holds Try.pinned (OpenSpec.upto coreNilSpec)

end Rows
end Go.Proofs.Ytpefmgmhclbcbaa
