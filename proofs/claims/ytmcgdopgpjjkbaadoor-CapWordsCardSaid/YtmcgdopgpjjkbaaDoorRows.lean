/-
  NARROWER THAN 'FOR EVERY INPUT', by the rows' own cells (each row's printed sentence says how): CapWords: laid · CapDerives: laid · CapBack: laid · CapNever: laid · CapNames: laid · CapTexts: laid · CapTwice: laid · CapBits: laid.
  DERIVED. THE GIVEN ROWS OF THIS SEAT. 8 by the template 'for every input the law returns true; each argument reads behind the call as it read before'; 0 by the template 'total and deterministic' (their statements: YtmcgdopgpjjkbaaDoorTotals.lean).
  GIVEN WITH THE SEED: the statements are not yours to turn. If you find one false, say at which input.
  Laid BY PROGRAM, IN A SANDBOX (cutbox-rows.mjs): the forced cells as the released guide's own fill.sh prints them over the translation 2c47360c32da5ea2… (all of the seat's roots in one cut). By AI agents, Wed Nov 11 2026. No macro, syntax, notation, axiom, sorry.
-/
import Derived.Test.YtmcgdopgpjjkbaaDoorChecked
import GoSem.Claim
import GoSem.ClaimJoined
import GoSem.ClaimMapViews
import Derived.JoinedTies
import Derived.KernelRfl
namespace Go.Proofs.YtmcgdopgpjjkbaaDoor
/- THE CELL 'sum', in the pinned program and in every row, IS THE sha256 OF THE DUMP (.gsa) THAT YtmcgdopgpjjkbaaDoorProg.lean LOADS. Nothing in Lean hashes anything: it is a label: what it is worth is what the hold of that sum in a sandbox is worth. -/
noncomputable def Tryd.pinned : Pinned := { name := "ytmcgdopgpjjkbaadoor", sum := "2c47360c32da5ea2bb77806a9dd0684a723fca8f7f25e4b99e6997a0d0b31dfa", checked := Tryd.checked }
namespace Rows
def none {H : Type} : Left H := { results := [], args := [] }

/- WHAT THE LISTED PACKAGE-LEVEL VARIABLES READ AS WHEN THE CALL BEGINS. Each datum BY PROGRAM (the guide's laid-datum.mjs) off the statement by which the dump's own 'gosem.cut.vars' lays the variable. In a bare row this is a premise. The card (YtmcgdopgpjjkbaaDoorCards.lean) ties it to the program's text. -/
def laid_math_bits_deBruijn32tab {H : Type} : DataW H := .agg [.lit (.int .u8 0), .lit (.int .u8 1), .lit (.int .u8 28), .lit (.int .u8 2), .lit (.int .u8 29), .lit (.int .u8 14), .lit (.int .u8 24), .lit (.int .u8 3), .lit (.int .u8 30), .lit (.int .u8 22), .lit (.int .u8 20), .lit (.int .u8 15), .lit (.int .u8 25), .lit (.int .u8 17), .lit (.int .u8 4), .lit (.int .u8 8), .lit (.int .u8 31), .lit (.int .u8 27), .lit (.int .u8 13), .lit (.int .u8 23), .lit (.int .u8 21), .lit (.int .u8 19), .lit (.int .u8 16), .lit (.int .u8 7), .lit (.int .u8 26), .lit (.int .u8 12), .lit (.int .u8 18), .lit (.int .u8 6), .lit (.int .u8 11), .lit (.int .u8 5), .lit (.int .u8 10), .lit (.int .u8 9)]
def laid_math_bits_deBruijn64tab {H : Type} : DataW H := .agg [.lit (.int .u8 0), .lit (.int .u8 1), .lit (.int .u8 56), .lit (.int .u8 2), .lit (.int .u8 57), .lit (.int .u8 49), .lit (.int .u8 28), .lit (.int .u8 3), .lit (.int .u8 61), .lit (.int .u8 58), .lit (.int .u8 42), .lit (.int .u8 50), .lit (.int .u8 38), .lit (.int .u8 29), .lit (.int .u8 17), .lit (.int .u8 4), .lit (.int .u8 62), .lit (.int .u8 47), .lit (.int .u8 59), .lit (.int .u8 36), .lit (.int .u8 45), .lit (.int .u8 43), .lit (.int .u8 51), .lit (.int .u8 22), .lit (.int .u8 53), .lit (.int .u8 39), .lit (.int .u8 33), .lit (.int .u8 30), .lit (.int .u8 24), .lit (.int .u8 18), .lit (.int .u8 12), .lit (.int .u8 5), .lit (.int .u8 63), .lit (.int .u8 55), .lit (.int .u8 48), .lit (.int .u8 27), .lit (.int .u8 60), .lit (.int .u8 41), .lit (.int .u8 37), .lit (.int .u8 16), .lit (.int .u8 46), .lit (.int .u8 35), .lit (.int .u8 44), .lit (.int .u8 21), .lit (.int .u8 52), .lit (.int .u8 32), .lit (.int .u8 23), .lit (.int .u8 11), .lit (.int .u8 54), .lit (.int .u8 26), .lit (.int .u8 40), .lit (.int .u8 15), .lit (.int .u8 34), .lit (.int .u8 20), .lit (.int .u8 31), .lit (.int .u8 10), .lit (.int .u8 25), .lit (.int .u8 14), .lit (.int .u8 19), .lit (.int .u8 9), .lit (.int .u8 13), .lit (.int .u8 8), .lit (.int .u8 7), .lit (.int .u8 6)]
def laid_internal_strconv_uint64pow10 {H : Type} : DataW H := .agg [.lit (.int .u64 1), .lit (.int .u64 10), .lit (.int .u64 100), .lit (.int .u64 1000), .lit (.int .u64 10000), .lit (.int .u64 100000), .lit (.int .u64 1000000), .lit (.int .u64 10000000), .lit (.int .u64 100000000), .lit (.int .u64 1000000000), .lit (.int .u64 10000000000), .lit (.int .u64 100000000000), .lit (.int .u64 1000000000000), .lit (.int .u64 10000000000000), .lit (.int .u64 100000000000000), .lit (.int .u64 1000000000000000), .lit (.int .u64 10000000000000000), .lit (.int .u64 100000000000000000), .lit (.int .u64 1000000000000000000), .lit (.int .u64 10000000000000000000)]

/-- 'garrisonlaw03.CapWords': WHATEVER THE INPUT: true; the input reads as it did. -/
def capWordsSpec : ChangeSpec := { name := "capWords", fn := fun _ => fun
  | [d1, d2] => { results := [.lit (.bool true)], args := [d1, d2] }
  | _ => none }
def capWordsRow : OpenClaim := { program := "ytmcgdopgpjjkbaadoor", sum := "2c47360c32da5ea2bb77806a9dd0684a723fca8f7f25e4b99e6997a0d0b31dfa", func := "garrison/garrisonlaw03.CapWords", spec := "capWords", named := ["internal/strconv.uint64pow10", "math/bits.deBruijn32tab", "math/bits.deBruijn64tab"], apart := false, laid := [("math/bits.deBruijn32tab", laid_math_bits_deBruijn32tab), ("math/bits.deBruijn64tab", laid_math_bits_deBruijn64tab), ("internal/strconv.uint64pow10", laid_internal_strconv_uint64pow10)] }
def CapWordsSaid : Prop := capWordsRow.holds Tryd.pinned (OpenSpec.ofChange capWordsSpec)

/-- ITS FALSE NEIGHBOUR: 'it returns false'. Refute it at one input. -/
def capWordsWrong : ChangeSpec := { name := "capWords", fn := fun _ => fun
  | [d1, d2] => { results := [.lit (.bool false)], args := [d1, d2] }
  | _ => none }
def CapWordsWrongFalsely : Prop := capWordsRow.holds Tryd.pinned (OpenSpec.ofChange capWordsWrong)

/-- 'garrisonlaw03.CapDerives': WHATEVER THE INPUT: true; the input reads as it did. -/
def capDerivesSpec : ChangeSpec := { name := "capDerives", fn := fun _ => fun
  | [d1, d2, d3, d4] => { results := [.lit (.bool true)], args := [d1, d2, d3, d4] }
  | _ => none }
def capDerivesRow : OpenClaim := { program := "ytmcgdopgpjjkbaadoor", sum := "2c47360c32da5ea2bb77806a9dd0684a723fca8f7f25e4b99e6997a0d0b31dfa", func := "garrison/garrisonlaw03.CapDerives", spec := "capDerives", named := ["internal/strconv.uint64pow10", "math/bits.deBruijn32tab", "math/bits.deBruijn64tab"], apart := false, laid := [("math/bits.deBruijn32tab", laid_math_bits_deBruijn32tab), ("math/bits.deBruijn64tab", laid_math_bits_deBruijn64tab), ("internal/strconv.uint64pow10", laid_internal_strconv_uint64pow10)] }
def CapDerivesSaid : Prop := capDerivesRow.holds Tryd.pinned (OpenSpec.ofChange capDerivesSpec)

/-- ITS FALSE NEIGHBOUR: 'it returns false'. Refute it at one input. -/
def capDerivesWrong : ChangeSpec := { name := "capDerives", fn := fun _ => fun
  | [d1, d2, d3, d4] => { results := [.lit (.bool false)], args := [d1, d2, d3, d4] }
  | _ => none }
def CapDerivesWrongFalsely : Prop := capDerivesRow.holds Tryd.pinned (OpenSpec.ofChange capDerivesWrong)

/-- 'garrisonlaw03.CapBack': WHATEVER THE INPUT: true; the input reads as it did. -/
def capBackSpec : ChangeSpec := { name := "capBack", fn := fun _ => fun
  | [d1, d2, d3] => { results := [.lit (.bool true)], args := [d1, d2, d3] }
  | _ => none }
def capBackRow : OpenClaim := { program := "ytmcgdopgpjjkbaadoor", sum := "2c47360c32da5ea2bb77806a9dd0684a723fca8f7f25e4b99e6997a0d0b31dfa", func := "garrison/garrisonlaw03.CapBack", spec := "capBack", named := ["internal/strconv.uint64pow10", "math/bits.deBruijn32tab", "math/bits.deBruijn64tab"], apart := false, laid := [("math/bits.deBruijn32tab", laid_math_bits_deBruijn32tab), ("math/bits.deBruijn64tab", laid_math_bits_deBruijn64tab), ("internal/strconv.uint64pow10", laid_internal_strconv_uint64pow10)] }
def CapBackSaid : Prop := capBackRow.holds Tryd.pinned (OpenSpec.ofChange capBackSpec)

/-- ITS FALSE NEIGHBOUR: 'it returns false'. Refute it at one input. -/
def capBackWrong : ChangeSpec := { name := "capBack", fn := fun _ => fun
  | [d1, d2, d3] => { results := [.lit (.bool false)], args := [d1, d2, d3] }
  | _ => none }
def CapBackWrongFalsely : Prop := capBackRow.holds Tryd.pinned (OpenSpec.ofChange capBackWrong)

/-- 'garrisonlaw03.CapNever': WHATEVER THE INPUT: true; the input reads as it did. -/
def capNeverSpec : ChangeSpec := { name := "capNever", fn := fun _ => fun
  | [d1, d2, d3, d4, d5] => { results := [.lit (.bool true)], args := [d1, d2, d3, d4, d5] }
  | _ => none }
def capNeverRow : OpenClaim := { program := "ytmcgdopgpjjkbaadoor", sum := "2c47360c32da5ea2bb77806a9dd0684a723fca8f7f25e4b99e6997a0d0b31dfa", func := "garrison/garrisonlaw03.CapNever", spec := "capNever", named := ["internal/strconv.uint64pow10", "math/bits.deBruijn32tab", "math/bits.deBruijn64tab"], apart := false, laid := [("math/bits.deBruijn32tab", laid_math_bits_deBruijn32tab), ("math/bits.deBruijn64tab", laid_math_bits_deBruijn64tab), ("internal/strconv.uint64pow10", laid_internal_strconv_uint64pow10)] }
def CapNeverSaid : Prop := capNeverRow.holds Tryd.pinned (OpenSpec.ofChange capNeverSpec)

/-- ITS FALSE NEIGHBOUR: 'it returns false'. Refute it at one input. -/
def capNeverWrong : ChangeSpec := { name := "capNever", fn := fun _ => fun
  | [d1, d2, d3, d4, d5] => { results := [.lit (.bool false)], args := [d1, d2, d3, d4, d5] }
  | _ => none }
def CapNeverWrongFalsely : Prop := capNeverRow.holds Tryd.pinned (OpenSpec.ofChange capNeverWrong)

/-- 'garrisonlaw03.CapNames': WHATEVER THE INPUT: true; the input reads as it did. -/
def capNamesSpec : ChangeSpec := { name := "capNames", fn := fun _ => fun
  | [d1, d2, d3, d4] => { results := [.lit (.bool true)], args := [d1, d2, d3, d4] }
  | _ => none }
def capNamesRow : OpenClaim := { program := "ytmcgdopgpjjkbaadoor", sum := "2c47360c32da5ea2bb77806a9dd0684a723fca8f7f25e4b99e6997a0d0b31dfa", func := "garrison/garrisonlaw03.CapNames", spec := "capNames", named := ["internal/strconv.uint64pow10", "math/bits.deBruijn32tab", "math/bits.deBruijn64tab"], apart := false, laid := [("math/bits.deBruijn32tab", laid_math_bits_deBruijn32tab), ("math/bits.deBruijn64tab", laid_math_bits_deBruijn64tab), ("internal/strconv.uint64pow10", laid_internal_strconv_uint64pow10)] }
def CapNamesSaid : Prop := capNamesRow.holds Tryd.pinned (OpenSpec.ofChange capNamesSpec)

/-- ITS FALSE NEIGHBOUR: 'it returns false'. Refute it at one input. -/
def capNamesWrong : ChangeSpec := { name := "capNames", fn := fun _ => fun
  | [d1, d2, d3, d4] => { results := [.lit (.bool false)], args := [d1, d2, d3, d4] }
  | _ => none }
def CapNamesWrongFalsely : Prop := capNamesRow.holds Tryd.pinned (OpenSpec.ofChange capNamesWrong)

/-- 'garrisonlaw03.CapTexts': WHATEVER THE INPUT: true; the input reads as it did. -/
def capTextsSpec : ChangeSpec := { name := "capTexts", fn := fun _ => fun
  | [d1, d2] => { results := [.lit (.bool true)], args := [d1, d2] }
  | _ => none }
def capTextsRow : OpenClaim := { program := "ytmcgdopgpjjkbaadoor", sum := "2c47360c32da5ea2bb77806a9dd0684a723fca8f7f25e4b99e6997a0d0b31dfa", func := "garrison/garrisonlaw03.CapTexts", spec := "capTexts", named := ["internal/strconv.uint64pow10", "math/bits.deBruijn32tab", "math/bits.deBruijn64tab"], apart := false, laid := [("math/bits.deBruijn32tab", laid_math_bits_deBruijn32tab), ("math/bits.deBruijn64tab", laid_math_bits_deBruijn64tab), ("internal/strconv.uint64pow10", laid_internal_strconv_uint64pow10)] }
def CapTextsSaid : Prop := capTextsRow.holds Tryd.pinned (OpenSpec.ofChange capTextsSpec)

/-- ITS FALSE NEIGHBOUR: 'it returns false'. Refute it at one input. -/
def capTextsWrong : ChangeSpec := { name := "capTexts", fn := fun _ => fun
  | [d1, d2] => { results := [.lit (.bool false)], args := [d1, d2] }
  | _ => none }
def CapTextsWrongFalsely : Prop := capTextsRow.holds Tryd.pinned (OpenSpec.ofChange capTextsWrong)

/-- 'garrisonlaw03.CapTwice': WHATEVER THE INPUT: true; the input reads as it did. -/
def capTwiceSpec : ChangeSpec := { name := "capTwice", fn := fun _ => fun
  | [d1, d2, d3, d4] => { results := [.lit (.bool true)], args := [d1, d2, d3, d4] }
  | _ => none }
def capTwiceRow : OpenClaim := { program := "ytmcgdopgpjjkbaadoor", sum := "2c47360c32da5ea2bb77806a9dd0684a723fca8f7f25e4b99e6997a0d0b31dfa", func := "garrison/garrisonlaw03.CapTwice", spec := "capTwice", named := ["internal/strconv.uint64pow10", "math/bits.deBruijn32tab", "math/bits.deBruijn64tab"], apart := false, laid := [("math/bits.deBruijn32tab", laid_math_bits_deBruijn32tab), ("math/bits.deBruijn64tab", laid_math_bits_deBruijn64tab), ("internal/strconv.uint64pow10", laid_internal_strconv_uint64pow10)] }
def CapTwiceSaid : Prop := capTwiceRow.holds Tryd.pinned (OpenSpec.ofChange capTwiceSpec)

/-- ITS FALSE NEIGHBOUR: 'it returns false'. Refute it at one input. -/
def capTwiceWrong : ChangeSpec := { name := "capTwice", fn := fun _ => fun
  | [d1, d2, d3, d4] => { results := [.lit (.bool false)], args := [d1, d2, d3, d4] }
  | _ => none }
def CapTwiceWrongFalsely : Prop := capTwiceRow.holds Tryd.pinned (OpenSpec.ofChange capTwiceWrong)

/-- 'garrisonlaw03.CapBits': WHATEVER THE INPUT: true; the input reads as it did. -/
def capBitsSpec : ChangeSpec := { name := "capBits", fn := fun _ => fun
  | [d1, d2] => { results := [.lit (.bool true)], args := [d1, d2] }
  | _ => none }
def capBitsRow : OpenClaim := { program := "ytmcgdopgpjjkbaadoor", sum := "2c47360c32da5ea2bb77806a9dd0684a723fca8f7f25e4b99e6997a0d0b31dfa", func := "garrison/garrisonlaw03.CapBits", spec := "capBits", named := ["internal/strconv.uint64pow10", "math/bits.deBruijn32tab", "math/bits.deBruijn64tab"], apart := false, laid := [("math/bits.deBruijn32tab", laid_math_bits_deBruijn32tab), ("math/bits.deBruijn64tab", laid_math_bits_deBruijn64tab), ("internal/strconv.uint64pow10", laid_internal_strconv_uint64pow10)] }
def CapBitsSaid : Prop := capBitsRow.holds Tryd.pinned (OpenSpec.ofChange capBitsSpec)

/-- ITS FALSE NEIGHBOUR: 'it returns false'. Refute it at one input. -/
def capBitsWrong : ChangeSpec := { name := "capBits", fn := fun _ => fun
  | [d1, d2] => { results := [.lit (.bool false)], args := [d1, d2] }
  | _ => none }
def CapBitsWrongFalsely : Prop := capBitsRow.holds Tryd.pinned (OpenSpec.ofChange capBitsWrong)

/- THE SECOND FORM. 'bulk': how many values and letters a reading holds, each counted each time it is reached (what is shared counts as often as it is met; a slice's spare places count too). A statement '..UptoSaid' is the law's where the arguments, and the package variables that the reading takes, are together of bulk at most 1048576: NARROWER than '..Said'. Prove '..Said' where nothing that the law and all that it calls make is longer than what came in: it says more and counts as full. Else prove '..UptoSaid'. A law counts once. -/
mutual
def uptoBulk {H : Type} : DataW H → Nat
  | .lit (.string bytes) => bytes.length + 1
  | .lit _ => 1
  | .nil => 1
  | .ptr d => uptoBulk d + 1
  | .slice elems spare => uptoBulkAll elems + uptoBulkAll spare + 1
  | .agg parts => uptoBulkAll parts + 1
  | .iface _ d => uptoBulk d + 1
  | .map entries => uptoBulkEntries entries + 1
  | .held _ => 1
def uptoBulkAll {H : Type} : List (DataW H) → Nat
  | [] => 0
  | d :: r => uptoBulk d + uptoBulkAll r
def uptoBulkEntries {H : Type} : List (Lit × DataW H) → Nat
  | [] => 0
  | x :: r => uptoBulkEntry x + uptoBulkEntries r
def uptoBulkEntry {H : Type} : Lit × DataW H → Nat
  | (.string bytes, d) => bytes.length + uptoBulk d + 1
  | (_, d) => uptoBulk d + 1
 end
def uptoSmall : (H : Type) → List (DataW H) → Bool := fun _ ds => decide (uptoBulkAll ds ≤ 1048576)
def OpenSpec.upto (s : _root_.Go.ChangeSpec) : _root_.Go.OpenSpec := { _root_.Go.OpenSpec.ofChange s with cond := some uptoSmall }

/-- 'garrisonlaw03.CapWords', WHERE WHAT IT READS IS OF BULK AT MOST 1048576: true; the input reads as it did. -/
def capWordsUptoRow : OpenClaim := { program := "ytmcgdopgpjjkbaadoor", sum := "2c47360c32da5ea2bb77806a9dd0684a723fca8f7f25e4b99e6997a0d0b31dfa", func := "garrison/garrisonlaw03.CapWords", spec := "capWords", named := ["internal/strconv.uint64pow10", "math/bits.deBruijn32tab", "math/bits.deBruijn64tab"], apart := false, laid := [("math/bits.deBruijn32tab", laid_math_bits_deBruijn32tab), ("math/bits.deBruijn64tab", laid_math_bits_deBruijn64tab), ("internal/strconv.uint64pow10", laid_internal_strconv_uint64pow10)], narrowed := true }
def CapWordsUptoSaid : Prop := capWordsUptoRow.holds Tryd.pinned (OpenSpec.upto capWordsSpec)

/-- 'garrisonlaw03.CapDerives', WHERE WHAT IT READS IS OF BULK AT MOST 1048576: true; the input reads as it did. -/
def capDerivesUptoRow : OpenClaim := { program := "ytmcgdopgpjjkbaadoor", sum := "2c47360c32da5ea2bb77806a9dd0684a723fca8f7f25e4b99e6997a0d0b31dfa", func := "garrison/garrisonlaw03.CapDerives", spec := "capDerives", named := ["internal/strconv.uint64pow10", "math/bits.deBruijn32tab", "math/bits.deBruijn64tab"], apart := false, laid := [("math/bits.deBruijn32tab", laid_math_bits_deBruijn32tab), ("math/bits.deBruijn64tab", laid_math_bits_deBruijn64tab), ("internal/strconv.uint64pow10", laid_internal_strconv_uint64pow10)], narrowed := true }
def CapDerivesUptoSaid : Prop := capDerivesUptoRow.holds Tryd.pinned (OpenSpec.upto capDerivesSpec)

/-- 'garrisonlaw03.CapBack', WHERE WHAT IT READS IS OF BULK AT MOST 1048576: true; the input reads as it did. -/
def capBackUptoRow : OpenClaim := { program := "ytmcgdopgpjjkbaadoor", sum := "2c47360c32da5ea2bb77806a9dd0684a723fca8f7f25e4b99e6997a0d0b31dfa", func := "garrison/garrisonlaw03.CapBack", spec := "capBack", named := ["internal/strconv.uint64pow10", "math/bits.deBruijn32tab", "math/bits.deBruijn64tab"], apart := false, laid := [("math/bits.deBruijn32tab", laid_math_bits_deBruijn32tab), ("math/bits.deBruijn64tab", laid_math_bits_deBruijn64tab), ("internal/strconv.uint64pow10", laid_internal_strconv_uint64pow10)], narrowed := true }
def CapBackUptoSaid : Prop := capBackUptoRow.holds Tryd.pinned (OpenSpec.upto capBackSpec)

/-- 'garrisonlaw03.CapNever', WHERE WHAT IT READS IS OF BULK AT MOST 1048576: true; the input reads as it did. -/
def capNeverUptoRow : OpenClaim := { program := "ytmcgdopgpjjkbaadoor", sum := "2c47360c32da5ea2bb77806a9dd0684a723fca8f7f25e4b99e6997a0d0b31dfa", func := "garrison/garrisonlaw03.CapNever", spec := "capNever", named := ["internal/strconv.uint64pow10", "math/bits.deBruijn32tab", "math/bits.deBruijn64tab"], apart := false, laid := [("math/bits.deBruijn32tab", laid_math_bits_deBruijn32tab), ("math/bits.deBruijn64tab", laid_math_bits_deBruijn64tab), ("internal/strconv.uint64pow10", laid_internal_strconv_uint64pow10)], narrowed := true }
def CapNeverUptoSaid : Prop := capNeverUptoRow.holds Tryd.pinned (OpenSpec.upto capNeverSpec)

/-- 'garrisonlaw03.CapNames', WHERE WHAT IT READS IS OF BULK AT MOST 1048576: true; the input reads as it did. -/
def capNamesUptoRow : OpenClaim := { program := "ytmcgdopgpjjkbaadoor", sum := "2c47360c32da5ea2bb77806a9dd0684a723fca8f7f25e4b99e6997a0d0b31dfa", func := "garrison/garrisonlaw03.CapNames", spec := "capNames", named := ["internal/strconv.uint64pow10", "math/bits.deBruijn32tab", "math/bits.deBruijn64tab"], apart := false, laid := [("math/bits.deBruijn32tab", laid_math_bits_deBruijn32tab), ("math/bits.deBruijn64tab", laid_math_bits_deBruijn64tab), ("internal/strconv.uint64pow10", laid_internal_strconv_uint64pow10)], narrowed := true }
def CapNamesUptoSaid : Prop := capNamesUptoRow.holds Tryd.pinned (OpenSpec.upto capNamesSpec)

/-- 'garrisonlaw03.CapTexts', WHERE WHAT IT READS IS OF BULK AT MOST 1048576: true; the input reads as it did. -/
def capTextsUptoRow : OpenClaim := { program := "ytmcgdopgpjjkbaadoor", sum := "2c47360c32da5ea2bb77806a9dd0684a723fca8f7f25e4b99e6997a0d0b31dfa", func := "garrison/garrisonlaw03.CapTexts", spec := "capTexts", named := ["internal/strconv.uint64pow10", "math/bits.deBruijn32tab", "math/bits.deBruijn64tab"], apart := false, laid := [("math/bits.deBruijn32tab", laid_math_bits_deBruijn32tab), ("math/bits.deBruijn64tab", laid_math_bits_deBruijn64tab), ("internal/strconv.uint64pow10", laid_internal_strconv_uint64pow10)], narrowed := true }
def CapTextsUptoSaid : Prop := capTextsUptoRow.holds Tryd.pinned (OpenSpec.upto capTextsSpec)

/-- 'garrisonlaw03.CapTwice', WHERE WHAT IT READS IS OF BULK AT MOST 1048576: true; the input reads as it did. -/
def capTwiceUptoRow : OpenClaim := { program := "ytmcgdopgpjjkbaadoor", sum := "2c47360c32da5ea2bb77806a9dd0684a723fca8f7f25e4b99e6997a0d0b31dfa", func := "garrison/garrisonlaw03.CapTwice", spec := "capTwice", named := ["internal/strconv.uint64pow10", "math/bits.deBruijn32tab", "math/bits.deBruijn64tab"], apart := false, laid := [("math/bits.deBruijn32tab", laid_math_bits_deBruijn32tab), ("math/bits.deBruijn64tab", laid_math_bits_deBruijn64tab), ("internal/strconv.uint64pow10", laid_internal_strconv_uint64pow10)], narrowed := true }
def CapTwiceUptoSaid : Prop := capTwiceUptoRow.holds Tryd.pinned (OpenSpec.upto capTwiceSpec)

/-- 'garrisonlaw03.CapBits', WHERE WHAT IT READS IS OF BULK AT MOST 1048576: true; the input reads as it did. -/
def capBitsUptoRow : OpenClaim := { program := "ytmcgdopgpjjkbaadoor", sum := "2c47360c32da5ea2bb77806a9dd0684a723fca8f7f25e4b99e6997a0d0b31dfa", func := "garrison/garrisonlaw03.CapBits", spec := "capBits", named := ["internal/strconv.uint64pow10", "math/bits.deBruijn32tab", "math/bits.deBruijn64tab"], apart := false, laid := [("math/bits.deBruijn32tab", laid_math_bits_deBruijn32tab), ("math/bits.deBruijn64tab", laid_math_bits_deBruijn64tab), ("internal/strconv.uint64pow10", laid_internal_strconv_uint64pow10)], narrowed := true }
def CapBitsUptoSaid : Prop := capBitsUptoRow.holds Tryd.pinned (OpenSpec.upto capBitsSpec)

end Rows
end Go.Proofs.YtmcgdopgpjjkbaaDoor
