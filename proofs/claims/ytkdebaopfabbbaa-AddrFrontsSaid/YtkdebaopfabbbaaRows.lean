/-
  No cell of these rows narrows 'for every input' (looked for: loops, veiled, ifaces, maps, wideKeys, modest, calm, conditions, laid).
  DERIVED. THE GIVEN ROWS OF THIS SEAT. 5 by the template 'for every input the law returns true; each argument reads behind the call as it read before'; 0 by the template 'total and deterministic' (their statements: YtkdebaopfabbbaaTotals.lean).
  GIVEN WITH THE SEED: the statements are not yours to turn. If you find one false, say at which input.
  Laid BY PROGRAM, IN A SANDBOX (cutbox-rows.mjs): the forced cells as the released guide's own fill.sh prints them over the translation be986cec569d788e… (all of the seat's roots in one cut). By AI agents, Wed Nov 11 2026. No macro, syntax, notation, axiom, sorry.
-/
import Derived.Test.YtkdebaopfabbbaaChecked
import GoSem.Claim
import GoSem.ClaimJoined
import GoSem.ClaimMapViews
import Derived.JoinedTies
import Derived.KernelRfl
namespace Go.Proofs.Ytkdebaopfabbbaa
/- THE CELL 'sum', in the pinned program and in every row, IS THE sha256 OF THE DUMP (.gsa) THAT YtkdebaopfabbbaaProg.lean LOADS. Nothing in Lean hashes anything: it is a label: what it is worth is what the hold of that sum in a sandbox is worth. -/
noncomputable def Try.pinned : Pinned := { name := "ytkdebaopfabbbaa", sum := "be986cec569d788edf7feeb3f93a807a4a7e86343ffeb9d469035343e5559558", checked := Try.checked }
namespace Rows
def none {H : Type} : Left H := { results := [], args := [] }

/-- 'garrisonlaw12.AddrWords': WHATEVER THE INPUT: true; the input reads as it did. -/
def addrWordsSpec : ChangeSpec := { name := "addrWords", fn := fun _ => fun
  | [d1, d2] => { results := [.lit (.bool true)], args := [d1, d2] }
  | _ => none }
def addrWordsRow : OpenClaim := { program := "ytkdebaopfabbbaa", sum := "be986cec569d788edf7feeb3f93a807a4a7e86343ffeb9d469035343e5559558", func := "garrison/garrisonlaw12.AddrWords", spec := "addrWords", unfollowed := true, recurses := true, apart := false }
def AddrWordsSaid : Prop := addrWordsRow.holds Try.pinned (OpenSpec.ofChange addrWordsSpec)

/-- ITS FALSE NEIGHBOUR: 'it returns false'. Refute it at one input. -/
def addrWordsWrong : ChangeSpec := { name := "addrWords", fn := fun _ => fun
  | [d1, d2] => { results := [.lit (.bool false)], args := [d1, d2] }
  | _ => none }
def AddrWordsWrongFalsely : Prop := addrWordsRow.holds Try.pinned (OpenSpec.ofChange addrWordsWrong)

/-- 'garrisonlaw12.AddrBack': WHATEVER THE INPUT: true; the input reads as it did. -/
def addrBackSpec : ChangeSpec := { name := "addrBack", fn := fun _ => fun
  | [d1, d2, d3] => { results := [.lit (.bool true)], args := [d1, d2, d3] }
  | _ => none }
def addrBackRow : OpenClaim := { program := "ytkdebaopfabbbaa", sum := "be986cec569d788edf7feeb3f93a807a4a7e86343ffeb9d469035343e5559558", func := "garrison/garrisonlaw12.AddrBack", spec := "addrBack", unfollowed := true, recurses := true, apart := false }
def AddrBackSaid : Prop := addrBackRow.holds Try.pinned (OpenSpec.ofChange addrBackSpec)

/-- ITS FALSE NEIGHBOUR: 'it returns false'. Refute it at one input. -/
def addrBackWrong : ChangeSpec := { name := "addrBack", fn := fun _ => fun
  | [d1, d2, d3] => { results := [.lit (.bool false)], args := [d1, d2, d3] }
  | _ => none }
def AddrBackWrongFalsely : Prop := addrBackRow.holds Try.pinned (OpenSpec.ofChange addrBackWrong)

/-- 'garrisonlaw12.AddrFronts': WHATEVER THE INPUT: true; the input reads as it did. -/
def addrFrontsSpec : ChangeSpec := { name := "addrFronts", fn := fun _ => fun
  | [d1, d2, d3] => { results := [.lit (.bool true)], args := [d1, d2, d3] }
  | _ => none }
def addrFrontsRow : OpenClaim := { program := "ytkdebaopfabbbaa", sum := "be986cec569d788edf7feeb3f93a807a4a7e86343ffeb9d469035343e5559558", func := "garrison/garrisonlaw12.AddrFronts", spec := "addrFronts", unfollowed := true, recurses := true, apart := false }
def AddrFrontsSaid : Prop := addrFrontsRow.holds Try.pinned (OpenSpec.ofChange addrFrontsSpec)

/-- ITS FALSE NEIGHBOUR: 'it returns false'. Refute it at one input. -/
def addrFrontsWrong : ChangeSpec := { name := "addrFronts", fn := fun _ => fun
  | [d1, d2, d3] => { results := [.lit (.bool false)], args := [d1, d2, d3] }
  | _ => none }
def AddrFrontsWrongFalsely : Prop := addrFrontsRow.holds Try.pinned (OpenSpec.ofChange addrFrontsWrong)

/-- 'garrisonlaw12.AddrOthers': WHATEVER THE INPUT: true; the input reads as it did. -/
def addrOthersSpec : ChangeSpec := { name := "addrOthers", fn := fun _ => fun
  | [d1, d2, d3, d4, d5] => { results := [.lit (.bool true)], args := [d1, d2, d3, d4, d5] }
  | _ => none }
def addrOthersRow : OpenClaim := { program := "ytkdebaopfabbbaa", sum := "be986cec569d788edf7feeb3f93a807a4a7e86343ffeb9d469035343e5559558", func := "garrison/garrisonlaw12.AddrOthers", spec := "addrOthers", unfollowed := true, recurses := true, apart := false }
def AddrOthersSaid : Prop := addrOthersRow.holds Try.pinned (OpenSpec.ofChange addrOthersSpec)

/-- ITS FALSE NEIGHBOUR: 'it returns false'. Refute it at one input. -/
def addrOthersWrong : ChangeSpec := { name := "addrOthers", fn := fun _ => fun
  | [d1, d2, d3, d4, d5] => { results := [.lit (.bool false)], args := [d1, d2, d3, d4, d5] }
  | _ => none }
def AddrOthersWrongFalsely : Prop := addrOthersRow.holds Try.pinned (OpenSpec.ofChange addrOthersWrong)

/-- 'garrisonlaw12.AddrGuards': WHATEVER THE INPUT: true; the input reads as it did. -/
def addrGuardsSpec : ChangeSpec := { name := "addrGuards", fn := fun _ => fun
  | [d1, d2, d3, d4, d5] => { results := [.lit (.bool true)], args := [d1, d2, d3, d4, d5] }
  | _ => none }
def addrGuardsRow : OpenClaim := { program := "ytkdebaopfabbbaa", sum := "be986cec569d788edf7feeb3f93a807a4a7e86343ffeb9d469035343e5559558", func := "garrison/garrisonlaw12.AddrGuards", spec := "addrGuards", unfollowed := true, recurses := true, apart := false }
def AddrGuardsSaid : Prop := addrGuardsRow.holds Try.pinned (OpenSpec.ofChange addrGuardsSpec)

/-- ITS FALSE NEIGHBOUR: 'it returns false'. Refute it at one input. -/
def addrGuardsWrong : ChangeSpec := { name := "addrGuards", fn := fun _ => fun
  | [d1, d2, d3, d4, d5] => { results := [.lit (.bool false)], args := [d1, d2, d3, d4, d5] }
  | _ => none }
def AddrGuardsWrongFalsely : Prop := addrGuardsRow.holds Try.pinned (OpenSpec.ofChange addrGuardsWrong)

/- THE SECOND FORM. 'bulk': how many values and letters a reading holds, each counted each time it is reached (what is shared counts as often as it is met; a slice's spare places count too). A statement '..UptoSaid' is the law's where the arguments, and the package variables that the reading takes, are together of bulk at most 1048576: NARROWER than '..Said'. Prove '..Said' where nothing that the law and all that it calls make is longer than what came in: it says more and counts as full. Else prove '..UptoSaid'. A law counts once. -/
mutual
def uptoBulk {H : Type} : DataW H → Nat
  | .lit (.string bytes) => bytes.length + 1
  | .lit _ => 1
  | .nil => 1
  | .ptr d => uptoBulk d + 1
  | .slice elems spare => uptoBulkAll elems + uptoBulkAll spare + 1
  | .agg parts => uptoBulkAll parts + 1
  | .iface _ d => uptoBulk d + 1
  | .map entries => uptoBulkEntries entries + 1
  | .held _ => 1
def uptoBulkAll {H : Type} : List (DataW H) → Nat
  | [] => 0
  | d :: r => uptoBulk d + uptoBulkAll r
def uptoBulkEntries {H : Type} : List (Lit × DataW H) → Nat
  | [] => 0
  | x :: r => uptoBulkEntry x + uptoBulkEntries r
def uptoBulkEntry {H : Type} : Lit × DataW H → Nat
  | (.string bytes, d) => bytes.length + uptoBulk d + 1
  | (_, d) => uptoBulk d + 1
 end
def uptoSmall : (H : Type) → List (DataW H) → Bool := fun _ ds => decide (uptoBulkAll ds ≤ 1048576)
def OpenSpec.upto (s : _root_.Go.ChangeSpec) : _root_.Go.OpenSpec := { _root_.Go.OpenSpec.ofChange s with cond := some uptoSmall }

/-- 'garrisonlaw12.AddrWords', WHERE WHAT IT READS IS OF BULK AT MOST 1048576: true; the input reads as it did. -/
def addrWordsUptoRow : OpenClaim := { program := "ytkdebaopfabbbaa", sum := "be986cec569d788edf7feeb3f93a807a4a7e86343ffeb9d469035343e5559558", func := "garrison/garrisonlaw12.AddrWords", spec := "addrWords", unfollowed := true, recurses := true, apart := false, narrowed := true }
def AddrWordsUptoSaid : Prop := addrWordsUptoRow.holds Try.pinned (OpenSpec.upto addrWordsSpec)

/-- 'garrisonlaw12.AddrBack', WHERE WHAT IT READS IS OF BULK AT MOST 1048576: true; the input reads as it did. -/
def addrBackUptoRow : OpenClaim := { program := "ytkdebaopfabbbaa", sum := "be986cec569d788edf7feeb3f93a807a4a7e86343ffeb9d469035343e5559558", func := "garrison/garrisonlaw12.AddrBack", spec := "addrBack", unfollowed := true, recurses := true, apart := false, narrowed := true }
def AddrBackUptoSaid : Prop := addrBackUptoRow.holds Try.pinned (OpenSpec.upto addrBackSpec)

/-- 'garrisonlaw12.AddrFronts', WHERE WHAT IT READS IS OF BULK AT MOST 1048576: true; the input reads as it did. -/
def addrFrontsUptoRow : OpenClaim := { program := "ytkdebaopfabbbaa", sum := "be986cec569d788edf7feeb3f93a807a4a7e86343ffeb9d469035343e5559558", func := "garrison/garrisonlaw12.AddrFronts", spec := "addrFronts", unfollowed := true, recurses := true, apart := false, narrowed := true }
def AddrFrontsUptoSaid : Prop := addrFrontsUptoRow.holds Try.pinned (OpenSpec.upto addrFrontsSpec)

/-- 'garrisonlaw12.AddrOthers', WHERE WHAT IT READS IS OF BULK AT MOST 1048576: true; the input reads as it did. -/
def addrOthersUptoRow : OpenClaim := { program := "ytkdebaopfabbbaa", sum := "be986cec569d788edf7feeb3f93a807a4a7e86343ffeb9d469035343e5559558", func := "garrison/garrisonlaw12.AddrOthers", spec := "addrOthers", unfollowed := true, recurses := true, apart := false, narrowed := true }
def AddrOthersUptoSaid : Prop := addrOthersUptoRow.holds Try.pinned (OpenSpec.upto addrOthersSpec)

/-- 'garrisonlaw12.AddrGuards', WHERE WHAT IT READS IS OF BULK AT MOST 1048576: true; the input reads as it did. -/
def addrGuardsUptoRow : OpenClaim := { program := "ytkdebaopfabbbaa", sum := "be986cec569d788edf7feeb3f93a807a4a7e86343ffeb9d469035343e5559558", func := "garrison/garrisonlaw12.AddrGuards", spec := "addrGuards", unfollowed := true, recurses := true, apart := false, narrowed := true }
def AddrGuardsUptoSaid : Prop := addrGuardsUptoRow.holds Try.pinned (OpenSpec.upto addrGuardsSpec)

end Rows
end Go.Proofs.Ytkdebaopfabbbaa
