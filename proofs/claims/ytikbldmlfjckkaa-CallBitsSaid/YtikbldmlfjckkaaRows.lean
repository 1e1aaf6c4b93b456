/-
  No cell of these rows narrows 'for every input' (looked for: loops, veiled, ifaces, maps, wideKeys, modest, calm, conditions, laid).
  DERIVED. THE GIVEN ROWS OF THIS SEAT. 5 by the template 'for every input the law returns true; each argument reads behind the call as it read before'; 0 by the template 'total and deterministic' (their statements: YtikbldmlfjckkaaTotals.lean).
  GIVEN WITH THE SEED: the statements are not yours to turn. If you find one false, say at which input.
  Laid BY PROGRAM, IN A SANDBOX (cutbox-rows.mjs): the forced cells as the released guide's own fill.sh prints them over the translation f67647703b0df5f4… (all of the seat's roots in one cut). By AI agents, Wed Nov 11 2026. No macro, syntax, notation, axiom, sorry.
-/
import Derived.Test.YtikbldmlfjckkaaChecked
import GoSem.Claim
import GoSem.ClaimJoined
import GoSem.ClaimMapViews
import Derived.JoinedTies
import Derived.KernelRfl
namespace Go.Proofs.Ytikbldmlfjckkaa
/- THE CELL 'sum', in the pinned program and in every row, IS THE sha256 OF THE DUMP (.gsa) THAT YtikbldmlfjckkaaProg.lean LOADS. Nothing in Lean hashes anything: it is a label: what it is worth is what the hold of that sum in a sandbox is worth. -/
noncomputable def Try.pinned : Pinned := { name := "ytikbldmlfjckkaa", sum := "f67647703b0df5f4aa896a9ce49231b842c7cb72c9520418ce7dfedb07b06c1f", checked := Try.checked }
namespace Rows
def none {H : Type} : Left H := { results := [], args := [] }

/-- 'garrisonlaw15.CallWords': WHATEVER THE INPUT: true; the input reads as it did. -/
def callWordsSpec : ChangeSpec := { name := "callWords", fn := fun _ => fun
  | [d1, d2] => { results := [.lit (.bool true)], args := [d1, d2] }
  | _ => none }
def callWordsRow : OpenClaim := { program := "ytikbldmlfjckkaa", sum := "f67647703b0df5f4aa896a9ce49231b842c7cb72c9520418ce7dfedb07b06c1f", func := "garrison/garrisonlaw15.CallWords", spec := "callWords", unfollowed := true, recurses := true, apart := false }
def CallWordsSaid : Prop := callWordsRow.holds Try.pinned (OpenSpec.ofChange callWordsSpec)

/-- ITS FALSE NEIGHBOUR: 'it returns false'. Refute it at one input. -/
def callWordsWrong : ChangeSpec := { name := "callWords", fn := fun _ => fun
  | [d1, d2] => { results := [.lit (.bool false)], args := [d1, d2] }
  | _ => none }
def CallWordsWrongFalsely : Prop := callWordsRow.holds Try.pinned (OpenSpec.ofChange callWordsWrong)

/-- 'garrisonlaw15.CallBack': WHATEVER THE INPUT: true; the input reads as it did. -/
def callBackSpec : ChangeSpec := { name := "callBack", fn := fun _ => fun
  | [d1, d2, d3] => { results := [.lit (.bool true)], args := [d1, d2, d3] }
  | _ => none }
def callBackRow : OpenClaim := { program := "ytikbldmlfjckkaa", sum := "f67647703b0df5f4aa896a9ce49231b842c7cb72c9520418ce7dfedb07b06c1f", func := "garrison/garrisonlaw15.CallBack", spec := "callBack", unfollowed := true, recurses := true, apart := false }
def CallBackSaid : Prop := callBackRow.holds Try.pinned (OpenSpec.ofChange callBackSpec)

/-- ITS FALSE NEIGHBOUR: 'it returns false'. Refute it at one input. -/
def callBackWrong : ChangeSpec := { name := "callBack", fn := fun _ => fun
  | [d1, d2, d3] => { results := [.lit (.bool false)], args := [d1, d2, d3] }
  | _ => none }
def CallBackWrongFalsely : Prop := callBackRow.holds Try.pinned (OpenSpec.ofChange callBackWrong)

/-- 'garrisonlaw15.CallOnly': WHATEVER THE INPUT: true; the input reads as it did. -/
def callOnlySpec : ChangeSpec := { name := "callOnly", fn := fun _ => fun
  | [d1, d2, d3] => { results := [.lit (.bool true)], args := [d1, d2, d3] }
  | _ => none }
def callOnlyRow : OpenClaim := { program := "ytikbldmlfjckkaa", sum := "f67647703b0df5f4aa896a9ce49231b842c7cb72c9520418ce7dfedb07b06c1f", func := "garrison/garrisonlaw15.CallOnly", spec := "callOnly", unfollowed := true, recurses := true, apart := false }
def CallOnlySaid : Prop := callOnlyRow.holds Try.pinned (OpenSpec.ofChange callOnlySpec)

/-- ITS FALSE NEIGHBOUR: 'it returns false'. Refute it at one input. -/
def callOnlyWrong : ChangeSpec := { name := "callOnly", fn := fun _ => fun
  | [d1, d2, d3] => { results := [.lit (.bool false)], args := [d1, d2, d3] }
  | _ => none }
def CallOnlyWrongFalsely : Prop := callOnlyRow.holds Try.pinned (OpenSpec.ofChange callOnlyWrong)

/-- 'garrisonlaw15.CallNames': WHATEVER THE INPUT: true; the input reads as it did. -/
def callNamesSpec : ChangeSpec := { name := "callNames", fn := fun _ => fun
  | [d1, d2] => { results := [.lit (.bool true)], args := [d1, d2] }
  | _ => none }
def callNamesRow : OpenClaim := { program := "ytikbldmlfjckkaa", sum := "f67647703b0df5f4aa896a9ce49231b842c7cb72c9520418ce7dfedb07b06c1f", func := "garrison/garrisonlaw15.CallNames", spec := "callNames", unfollowed := true, recurses := true, apart := false }
def CallNamesSaid : Prop := callNamesRow.holds Try.pinned (OpenSpec.ofChange callNamesSpec)

/-- ITS FALSE NEIGHBOUR: 'it returns false'. Refute it at one input. -/
def callNamesWrong : ChangeSpec := { name := "callNames", fn := fun _ => fun
  | [d1, d2] => { results := [.lit (.bool false)], args := [d1, d2] }
  | _ => none }
def CallNamesWrongFalsely : Prop := callNamesRow.holds Try.pinned (OpenSpec.ofChange callNamesWrong)

/-- 'garrisonlaw15.CallBits': WHATEVER THE INPUT: true; the input reads as it did. -/
def callBitsSpec : ChangeSpec := { name := "callBits", fn := fun _ => fun
  | [d1, d2, d3] => { results := [.lit (.bool true)], args := [d1, d2, d3] }
  | _ => none }
def callBitsRow : OpenClaim := { program := "ytikbldmlfjckkaa", sum := "f67647703b0df5f4aa896a9ce49231b842c7cb72c9520418ce7dfedb07b06c1f", func := "garrison/garrisonlaw15.CallBits", spec := "callBits", unfollowed := true, recurses := true, apart := false }
def CallBitsSaid : Prop := callBitsRow.holds Try.pinned (OpenSpec.ofChange callBitsSpec)

/-- ITS FALSE NEIGHBOUR: 'it returns false'. Refute it at one input. -/
def callBitsWrong : ChangeSpec := { name := "callBits", fn := fun _ => fun
  | [d1, d2, d3] => { results := [.lit (.bool false)], args := [d1, d2, d3] }
  | _ => none }
def CallBitsWrongFalsely : Prop := callBitsRow.holds Try.pinned (OpenSpec.ofChange callBitsWrong)

/- THE SECOND FORM. 'bulk': how many values and letters a reading holds, each counted each time it is reached (what is shared counts as often as it is met; a slice's spare places count too). A statement '..UptoSaid' is the law's where the arguments, and the package variables that the reading takes, are together of bulk at most 1048576: NARROWER than '..Said'. Prove '..Said' where nothing that the law and all that it calls make is longer than what came in: it says more and counts as full. Else prove '..UptoSaid'. A law counts once. -/
mutual
def uptoBulk {H : Type} : DataW H → Nat
  | .lit (.string bytes) => bytes.length + 1
  | .lit _ => 1
  | .nil => 1
  | .ptr d => uptoBulk d + 1
  | .slice elems spare => uptoBulkAll elems + uptoBulkAll spare + 1
  | .agg parts => uptoBulkAll parts + 1
  | .iface _ d => uptoBulk d + 1
  | .map entries => uptoBulkEntries entries + 1
  | .held _ => 1
def uptoBulkAll {H : Type} : List (DataW H) → Nat
  | [] => 0
  | d :: r => uptoBulk d + uptoBulkAll r
def uptoBulkEntries {H : Type} : List (Lit × DataW H) → Nat
  | [] => 0
  | x :: r => uptoBulkEntry x + uptoBulkEntries r
def uptoBulkEntry {H : Type} : Lit × DataW H → Nat
  | (.string bytes, d) => bytes.length + uptoBulk d + 1
  | (_, d) => uptoBulk d + 1
 end
def uptoSmall : (H : Type) → List (DataW H) → Bool := fun _ ds => decide (uptoBulkAll ds ≤ 1048576)
def OpenSpec.upto (s : _root_.Go.ChangeSpec) : _root_.Go.OpenSpec := { _root_.Go.OpenSpec.ofChange s with cond := some uptoSmall }

/-- 'garrisonlaw15.CallWords', WHERE WHAT IT READS IS OF BULK AT MOST 1048576: true; the input reads as it did. -/
def callWordsUptoRow : OpenClaim := { program := "ytikbldmlfjckkaa", sum := "f67647703b0df5f4aa896a9ce49231b842c7cb72c9520418ce7dfedb07b06c1f", func := "garrison/garrisonlaw15.CallWords", spec := "callWords", unfollowed := true, recurses := true, apart := false, narrowed := true }
def CallWordsUptoSaid : Prop := callWordsUptoRow.holds Try.pinned (OpenSpec.upto callWordsSpec)

/-- 'garrisonlaw15.CallBack', WHERE WHAT IT READS IS OF BULK AT MOST 1048576: true; the input reads as it did. -/
def callBackUptoRow : OpenClaim := { program := "ytikbldmlfjckkaa", sum := "f67647703b0df5f4aa896a9ce49231b842c7cb72c9520418ce7dfedb07b06c1f", func := "garrison/garrisonlaw15.CallBack", spec := "callBack", unfollowed := true, recurses := true, apart := false, narrowed := true }
def CallBackUptoSaid : Prop := callBackUptoRow.holds Try.pinned (OpenSpec.upto callBackSpec)

/-- 'garrisonlaw15.CallOnly', WHERE WHAT IT READS IS OF BULK AT MOST 1048576: true; the input reads as it did. -/
def callOnlyUptoRow : OpenClaim := { program := "ytikbldmlfjckkaa", sum := "f67647703b0df5f4aa896a9ce49231b842c7cb72c9520418ce7dfedb07b06c1f", func := "garrison/garrisonlaw15.CallOnly", spec := "callOnly", unfollowed := true, recurses := true, apart := false, narrowed := true }
def CallOnlyUptoSaid : Prop := callOnlyUptoRow.holds Try.pinned (OpenSpec.upto callOnlySpec)

/-- 'garrisonlaw15.CallNames', WHERE WHAT IT READS IS OF BULK AT MOST 1048576: true; the input reads as it did. -/
def callNamesUptoRow : OpenClaim := { program := "ytikbldmlfjckkaa", sum := "f67647703b0df5f4aa896a9ce49231b842c7cb72c9520418ce7dfedb07b06c1f", func := "garrison/garrisonlaw15.CallNames", spec := "callNames", unfollowed := true, recurses := true, apart := false, narrowed := true }
def CallNamesUptoSaid : Prop := callNamesUptoRow.holds Try.pinned (OpenSpec.upto callNamesSpec)

/-- 'garrisonlaw15.CallBits', WHERE WHAT IT READS IS OF BULK AT MOST 1048576: true; the input reads as it did. -/
def callBitsUptoRow : OpenClaim := { program := "ytikbldmlfjckkaa", sum := "f67647703b0df5f4aa896a9ce49231b842c7cb72c9520418ce7dfedb07b06c1f", func := "garrison/garrisonlaw15.CallBits", spec := "callBits", unfollowed := true, recurses := true, apart := false, narrowed := true }
def CallBitsUptoSaid : Prop := callBitsUptoRow.holds Try.pinned (OpenSpec.upto callBitsSpec)

end Rows
end Go.Proofs.Ytikbldmlfjckkaa
