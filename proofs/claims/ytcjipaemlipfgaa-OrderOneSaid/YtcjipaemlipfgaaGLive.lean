/- garrisonlaw06_live at this program tells true: its walk, printed at the answer 'true', and its run in plain. -/
import Derived.Test.YtcjipaemlipfgaaPx1
import Derived.Test.YtcjipaemlipfgaaPx2
import Derived.Test.YtcjipaemlipfgaaPx3
import Derived.Test.YtcjipaemlipfgaaPx4
import Derived.Test.YtcjipaemlipfgaaPx6
import Derived.Test.YtcjipaemlipfgaaGSort
import Derived.Test.YtcjipaemlipfgaaGRef
namespace Go.Proofs.Ytcjipaemlipfgaa.Given
open Go Go.RowKit Go.Proofs Go.Proofs.YtcjipaemlipfgaaW.PrintWords Go.Proofs.YtcjipaemlipfgaaW.PrintLast Go.Proofs.YtcjipaemlipfgaaW.PrintMore Go.Proofs.Ytcjipaemlipfgaa.P
attribute [local go_sem] max2_int min2_int max_two min_two max_three min_three max_four min_four u64_signed
attribute [local go_sem high] eqA23
set_option linter.unusedVariables false
set_option linter.unusedSimpArgs false

def garrisonlaw06_liveP.f (k : Nat)  : Option (Bool) := (garrisonlaw06_key.f 2 0).bind fun bt131 => ((garrisonlaw06_key.f 1 (-1)).bind fun bt133 => ((garrisonlaw06_key.f 2 0).bind fun bt135 => ((order_Sort.f (([(⟨bt131.1, bt131.2⟩ : S23), (⟨bt133.1, bt133.2⟩ : S23), (⟨bt135.1, bt135.2⟩ : S23)] : List (S23)))).bind fun bt140 => ((order_Key.f 9).bind fun bt144 => ((garrisonlaw06_key.f 0 8).bind fun bt148 => ((order_Sort.f (([(⟨bt148.1, bt148.2⟩ : S23)] : List (S23)))).bind fun bt153 => ((garrisonlaw06_num.f bt140.2).bind fun t157 => ((garrisonlaw06_num.f bt144.2.2).bind fun t158 => (if (wrap64 (t157 + t158)) = 0 then ((garrisonlaw06_key.f 1 (-1)).bind fun bt159 => ((garrisonlaw06_key.f 2 0).bind fun bt161 => ((garrisonref06_Same.f k bt140.1 (([(⟨bt159.1, bt159.2⟩ : S23), (⟨bt161.1, bt161.2⟩ : S23)] : List (S23)))).bind fun t166 => (if t166 = true then ((garrisonlaw06_key.f 1 (-1)).bind fun bt167 => (if (bt144.1 == bt167.1 && (bt144.2.1 == bt167.2)) = true then ((order_Cell.f bt144.1 bt144.2.1).bind fun t169 => (if t169 = 9 then ((garrisonlaw06_num.f bt153.2).bind fun t170 => (if t170 = 2 then ((order_Rising.f k bt140.1).bind fun t171 => (if t171 = true then ((order_Has.f k bt140.1 bt144.1 bt144.2.1).bind fun t172 => (if t172 = true then (if 0 < (bt140.1.length : Int) then (if 1 < (bt140.1.length : Int) then ((order_Less.f k ((rd_T23 bt140.1 0).f0) ((rd_T23 bt140.1 0).f1) ((rd_T23 bt140.1 1).f0) ((rd_T23 bt140.1 1).f1)).bind fun t175 => (if t175 = true then ((garrisonlaw06_key.f 1 3).bind fun bt176 => ((order_Merge.f bt140.1 (([(⟨bt176.1, bt176.2⟩ : S23)] : List (S23)))).bind fun t181 => (if (t181.length : Int) = 3 then ((garrisonlaw06_key.f 0 (-2)).bind fun bt184 => ((order_Check.f bt184.1 bt184.2).bind fun t186 => ((garrisonlaw06_num.f t186).bind fun t187 => (some (t187 == 2))))) else (some false)))) else (some false))) else (none)) else (none)) else (some false))) else (some false))) else (some false))) else (some false))) else (some false))) else (some false))))) else (some false))))))))))
def garrisonlaw06_liveP.T4 : Bool × List (List Nat × List Nat) := (true, [([], []), ([0], [0]), ([], []), ([2, 1], [2]), ([1, 3], [1, 3]), ([4], [4]), ([5, 3], [5]), ([6], [6]), ([6, 6], [6]), ([8, 6], [6]), ([8, 9, 6], [6, 8, 9]), ([7, 10, 9, 6], [6, 7, 10]), ([6, 11], [6, 11]), ([12, 11], [12]), ([13], [13]), ([13, 13], [13]), ([14, 15, 13], [13, 14, 15]), ([13, 16], [13, 16]), ([17, 15], [17]), ([18], [18]), ([19, 18, 18], [18, 19]), ([20, 18], [18, 20]), ([18, 21], [18, 21]), ([22, 20], [22]), ([23], [23]), ([24, 23, 23], [23, 24]), ([25, 23], [23, 25]), ([23, 26], [23, 26]), ([27, 25], [27]), ([28], [28]), ([29, 28, 28], [28, 29]), ([28, 30], [28, 30]), ([31, 30], [31]), ([32], [32]), ([32], [32]), ([33, 34, 32, 32], [32, 33, 34]), ([32, 35], [32, 35]), ([36, 35], [36]), ([37], [37]), ([38, 37], [37, 38]), ([39, 37], [37, 39]), ([37], [37]), ([41, 37], [37, 41]), ([42, 37], [37, 42]), ([40, 43, 37, 37], [37, 40, 43]), ([37, 44], [37, 44]), ([45, 44], [45]), ([46], [46]), ([46, 46], [46]), ([48, 46], [46, 48]), ([47, 49, 48, 46], [46, 47, 49]), ([50, 46], [46, 50]), ([51, 46], [46, 51]), ([46, 52], [46, 52]), ([53, 50], [53]), ([54, 54], [54]), ([55, 55, 54], [54, 55]), ([56, 56, 54], [54, 56]), ([57, 54], [54, 57]), ([54, 58], [54, 58]), ([59, 57, 0, 1, 2, 3, 4, 5, 6, 7, 8, 9, 10, 11, 12, 13, 14, 15, 16, 17, 18, 19, 20, 21, 22, 23, 24, 25, 26, 27, 28, 29, 30, 31, 32, 33, 34, 35, 36, 37, 38, 39, 40, 41, 42, 43, 44, 45, 46, 47, 48, 49, 50, 51, 52, 53, 54, 55, 56, 57, 58, 59], [59])])
def garrisonlaw06_liveP.B4 : List Nat := [0, 1, 0, 7, 15, 31, 63, 127, 127, 383, 895, 2047, 4095, 8191, 16383, 16383, 65535, 131071, 262143, 524287, 1048575, 2097151, 4194303, 8388607, 16777215, 33554431, 67108863, 134217727, 268435455, 536870911, 1073741823, 2147483647, 4294967295, 8589934591, 8589934591, 34359738367, 68719476735, 137438953471, 274877906943, 549755813887, 1099511627775, 274877906943, 2473901162495, 6871947673599, 17592186044415, 35184372088831, 70368744177663, 140737488355327, 140737488355327, 422212465065983, 1125899906842623, 2251799813685247, 4503599627370495, 9007199254740991, 18014398509481983, 36028797018963967, 72057594037927935, 144115188075855871, 288230376151711743, 576460752303423487, 1152921504606846975]
theorem garrisonlaw06_liveP.tab4 : rtab .any (opsOf Try.f19 4) = garrisonlaw06_liveP.T4 := by kernel_rfl
theorem garrisonlaw06_liveP.bits4 : waitsOk garrisonlaw06_liveP.T4.2 garrisonlaw06_liveP.B4 = true := by kernel_rfl
set_option maxHeartbeats 8000000 in
set_option maxRecDepth 100000 in
theorem garrisonlaw06_liveP.calls (k : Nat)  (r : Bool) (w : World) (hr_ : Aside0 (r = true)) (h : garrisonlaw06_liveP.f k  = some r) :
  Calls Try.prog 19 #[] w fun e w' => e = .returned (.bool r) ∧ Below w.heap.size w w' := by
 have hu23 := Try.underlying23
 have HB := Aside0.mk (Below.refl w.heap.size w)
 have H : ((garrisonlaw06_key.f 2 0).bind fun bt131 => ((garrisonlaw06_key.f 1 (-1)).bind fun bt133 => ((garrisonlaw06_key.f 2 0).bind fun bt135 => ((order_Sort.f (([(⟨bt131.1, bt131.2⟩ : S23), (⟨bt133.1, bt133.2⟩ : S23), (⟨bt135.1, bt135.2⟩ : S23)] : List (S23)))).bind fun bt140 => ((order_Key.f 9).bind fun bt144 => ((garrisonlaw06_key.f 0 8).bind fun bt148 => ((order_Sort.f (([(⟨bt148.1, bt148.2⟩ : S23)] : List (S23)))).bind fun bt153 => ((garrisonlaw06_num.f bt140.2).bind fun t157 => ((garrisonlaw06_num.f bt144.2.2).bind fun t158 => (if (wrap64 (t157 + t158)) = 0 then ((garrisonlaw06_key.f 1 (-1)).bind fun bt159 => ((garrisonlaw06_key.f 2 0).bind fun bt161 => ((garrisonref06_Same.f k bt140.1 (([(⟨bt159.1, bt159.2⟩ : S23), (⟨bt161.1, bt161.2⟩ : S23)] : List (S23)))).bind fun t166 => (if t166 = true then ((garrisonlaw06_key.f 1 (-1)).bind fun bt167 => (if (bt144.1 == bt167.1 && (bt144.2.1 == bt167.2)) = true then ((order_Cell.f bt144.1 bt144.2.1).bind fun t169 => (if t169 = 9 then ((garrisonlaw06_num.f bt153.2).bind fun t170 => (if t170 = 2 then ((order_Rising.f k bt140.1).bind fun t171 => (if t171 = true then ((order_Has.f k bt140.1 bt144.1 bt144.2.1).bind fun t172 => (if t172 = true then (if 0 < (bt140.1.length : Int) then (if 1 < (bt140.1.length : Int) then ((order_Less.f k ((rd_T23 bt140.1 0).f0) ((rd_T23 bt140.1 0).f1) ((rd_T23 bt140.1 1).f0) ((rd_T23 bt140.1 1).f1)).bind fun t175 => (if t175 = true then ((garrisonlaw06_key.f 1 3).bind fun bt176 => ((order_Merge.f bt140.1 (([(⟨bt176.1, bt176.2⟩ : S23)] : List (S23)))).bind fun t181 => (if (t181.length : Int) = 3 then ((garrisonlaw06_key.f 0 (-2)).bind fun bt184 => ((order_Check.f bt184.1 bt184.2).bind fun t186 => ((garrisonlaw06_num.f t186).bind fun t187 => (some (t187 == 2))))) else (some false)))) else (some false))) else (none)) else (none)) else (some false))) else (some false))) else (some false))) else (some false))) else (some false))) else (some false))))) else (some false))))))))))) = some r := h
 clear h
 replace H := Option.bind_eq_some_iff.mp H
 obtain ⟨⟨t131, t132⟩, A10, H⟩ := H
 replace H : ((garrisonlaw06_key.f 1 (-1)).bind fun bt133 => ((garrisonlaw06_key.f 2 0).bind fun bt135 => ((order_Sort.f (([(⟨t131, t132⟩ : S23), (⟨bt133.1, bt133.2⟩ : S23), (⟨bt135.1, bt135.2⟩ : S23)] : List (S23)))).bind fun bt140 => ((order_Key.f 9).bind fun bt144 => ((garrisonlaw06_key.f 0 8).bind fun bt148 => ((order_Sort.f (([(⟨bt148.1, bt148.2⟩ : S23)] : List (S23)))).bind fun bt153 => ((garrisonlaw06_num.f bt140.2).bind fun t157 => ((garrisonlaw06_num.f bt144.2.2).bind fun t158 => (if (wrap64 (t157 + t158)) = 0 then ((garrisonlaw06_key.f 1 (-1)).bind fun bt159 => ((garrisonlaw06_key.f 2 0).bind fun bt161 => ((garrisonref06_Same.f k bt140.1 (([(⟨bt159.1, bt159.2⟩ : S23), (⟨bt161.1, bt161.2⟩ : S23)] : List (S23)))).bind fun t166 => (if t166 = true then ((garrisonlaw06_key.f 1 (-1)).bind fun bt167 => (if (bt144.1 == bt167.1 && (bt144.2.1 == bt167.2)) = true then ((order_Cell.f bt144.1 bt144.2.1).bind fun t169 => (if t169 = 9 then ((garrisonlaw06_num.f bt153.2).bind fun t170 => (if t170 = 2 then ((order_Rising.f k bt140.1).bind fun t171 => (if t171 = true then ((order_Has.f k bt140.1 bt144.1 bt144.2.1).bind fun t172 => (if t172 = true then (if 0 < (bt140.1.length : Int) then (if 1 < (bt140.1.length : Int) then ((order_Less.f k ((rd_T23 bt140.1 0).f0) ((rd_T23 bt140.1 0).f1) ((rd_T23 bt140.1 1).f0) ((rd_T23 bt140.1 1).f1)).bind fun t175 => (if t175 = true then ((garrisonlaw06_key.f 1 3).bind fun bt176 => ((order_Merge.f bt140.1 (([(⟨bt176.1, bt176.2⟩ : S23)] : List (S23)))).bind fun t181 => (if (t181.length : Int) = 3 then ((garrisonlaw06_key.f 0 (-2)).bind fun bt184 => ((order_Check.f bt184.1 bt184.2).bind fun t186 => ((garrisonlaw06_num.f t186).bind fun t187 => (some (t187 == 2))))) else (some false)))) else (some false))) else (none)) else (none)) else (some false))) else (some false))) else (some false))) else (some false))) else (some false))) else (some false))))) else (some false)))))))))) = some r := H
 have A1 := Aside0.mk A10
 clear A10
 replace H := Option.bind_eq_some_iff.mp H
 obtain ⟨⟨t133, t134⟩, A20, H⟩ := H
 replace H : ((garrisonlaw06_key.f 2 0).bind fun bt135 => ((order_Sort.f (([(⟨t131, t132⟩ : S23), (⟨t133, t134⟩ : S23), (⟨bt135.1, bt135.2⟩ : S23)] : List (S23)))).bind fun bt140 => ((order_Key.f 9).bind fun bt144 => ((garrisonlaw06_key.f 0 8).bind fun bt148 => ((order_Sort.f (([(⟨bt148.1, bt148.2⟩ : S23)] : List (S23)))).bind fun bt153 => ((garrisonlaw06_num.f bt140.2).bind fun t157 => ((garrisonlaw06_num.f bt144.2.2).bind fun t158 => (if (wrap64 (t157 + t158)) = 0 then ((garrisonlaw06_key.f 1 (-1)).bind fun bt159 => ((garrisonlaw06_key.f 2 0).bind fun bt161 => ((garrisonref06_Same.f k bt140.1 (([(⟨bt159.1, bt159.2⟩ : S23), (⟨bt161.1, bt161.2⟩ : S23)] : List (S23)))).bind fun t166 => (if t166 = true then ((garrisonlaw06_key.f 1 (-1)).bind fun bt167 => (if (bt144.1 == bt167.1 && (bt144.2.1 == bt167.2)) = true then ((order_Cell.f bt144.1 bt144.2.1).bind fun t169 => (if t169 = 9 then ((garrisonlaw06_num.f bt153.2).bind fun t170 => (if t170 = 2 then ((order_Rising.f k bt140.1).bind fun t171 => (if t171 = true then ((order_Has.f k bt140.1 bt144.1 bt144.2.1).bind fun t172 => (if t172 = true then (if 0 < (bt140.1.length : Int) then (if 1 < (bt140.1.length : Int) then ((order_Less.f k ((rd_T23 bt140.1 0).f0) ((rd_T23 bt140.1 0).f1) ((rd_T23 bt140.1 1).f0) ((rd_T23 bt140.1 1).f1)).bind fun t175 => (if t175 = true then ((garrisonlaw06_key.f 1 3).bind fun bt176 => ((order_Merge.f bt140.1 (([(⟨bt176.1, bt176.2⟩ : S23)] : List (S23)))).bind fun t181 => (if (t181.length : Int) = 3 then ((garrisonlaw06_key.f 0 (-2)).bind fun bt184 => ((order_Check.f bt184.1 bt184.2).bind fun t186 => ((garrisonlaw06_num.f t186).bind fun t187 => (some (t187 == 2))))) else (some false)))) else (some false))) else (none)) else (none)) else (some false))) else (some false))) else (some false))) else (some false))) else (some false))) else (some false))))) else (some false))))))))) = some r := H
 have A2 := Aside0.mk A20
 clear A20
 replace H := Option.bind_eq_some_iff.mp H
 obtain ⟨⟨t135, t136⟩, A30, H⟩ := H
 replace H : ((order_Sort.f (([(⟨t131, t132⟩ : S23), (⟨t133, t134⟩ : S23), (⟨t135, t136⟩ : S23)] : List (S23)))).bind fun bt140 => ((order_Key.f 9).bind fun bt144 => ((garrisonlaw06_key.f 0 8).bind fun bt148 => ((order_Sort.f (([(⟨bt148.1, bt148.2⟩ : S23)] : List (S23)))).bind fun bt153 => ((garrisonlaw06_num.f bt140.2).bind fun t157 => ((garrisonlaw06_num.f bt144.2.2).bind fun t158 => (if (wrap64 (t157 + t158)) = 0 then ((garrisonlaw06_key.f 1 (-1)).bind fun bt159 => ((garrisonlaw06_key.f 2 0).bind fun bt161 => ((garrisonref06_Same.f k bt140.1 (([(⟨bt159.1, bt159.2⟩ : S23), (⟨bt161.1, bt161.2⟩ : S23)] : List (S23)))).bind fun t166 => (if t166 = true then ((garrisonlaw06_key.f 1 (-1)).bind fun bt167 => (if (bt144.1 == bt167.1 && (bt144.2.1 == bt167.2)) = true then ((order_Cell.f bt144.1 bt144.2.1).bind fun t169 => (if t169 = 9 then ((garrisonlaw06_num.f bt153.2).bind fun t170 => (if t170 = 2 then ((order_Rising.f k bt140.1).bind fun t171 => (if t171 = true then ((order_Has.f k bt140.1 bt144.1 bt144.2.1).bind fun t172 => (if t172 = true then (if 0 < (bt140.1.length : Int) then (if 1 < (bt140.1.length : Int) then ((order_Less.f k ((rd_T23 bt140.1 0).f0) ((rd_T23 bt140.1 0).f1) ((rd_T23 bt140.1 1).f0) ((rd_T23 bt140.1 1).f1)).bind fun t175 => (if t175 = true then ((garrisonlaw06_key.f 1 3).bind fun bt176 => ((order_Merge.f bt140.1 (([(⟨bt176.1, bt176.2⟩ : S23)] : List (S23)))).bind fun t181 => (if (t181.length : Int) = 3 then ((garrisonlaw06_key.f 0 (-2)).bind fun bt184 => ((order_Check.f bt184.1 bt184.2).bind fun t186 => ((garrisonlaw06_num.f t186).bind fun t187 => (some (t187 == 2))))) else (some false)))) else (some false))) else (none)) else (none)) else (some false))) else (some false))) else (some false))) else (some false))) else (some false))) else (some false))))) else (some false)))))))) = some r := H
 have A3 := Aside0.mk A30
 clear A30
 obtain ⟨y137, hy137⟩ : ∃ y_ : List (S23), y_ = (([(⟨t131, t132⟩ : S23), (⟨t133, t134⟩ : S23), (⟨t135, t136⟩ : S23)] : List (S23))) := ⟨_, rfl⟩
 replace H : ((order_Sort.f y137).bind fun bt140 => ((order_Key.f 9).bind fun bt144 => ((garrisonlaw06_key.f 0 8).bind fun bt148 => ((order_Sort.f (([(⟨bt148.1, bt148.2⟩ : S23)] : List (S23)))).bind fun bt153 => ((garrisonlaw06_num.f bt140.2).bind fun t157 => ((garrisonlaw06_num.f bt144.2.2).bind fun t158 => (if (wrap64 (t157 + t158)) = 0 then ((garrisonlaw06_key.f 1 (-1)).bind fun bt159 => ((garrisonlaw06_key.f 2 0).bind fun bt161 => ((garrisonref06_Same.f k bt140.1 (([(⟨bt159.1, bt159.2⟩ : S23), (⟨bt161.1, bt161.2⟩ : S23)] : List (S23)))).bind fun t166 => (if t166 = true then ((garrisonlaw06_key.f 1 (-1)).bind fun bt167 => (if (bt144.1 == bt167.1 && (bt144.2.1 == bt167.2)) = true then ((order_Cell.f bt144.1 bt144.2.1).bind fun t169 => (if t169 = 9 then ((garrisonlaw06_num.f bt153.2).bind fun t170 => (if t170 = 2 then ((order_Rising.f k bt140.1).bind fun t171 => (if t171 = true then ((order_Has.f k bt140.1 bt144.1 bt144.2.1).bind fun t172 => (if t172 = true then (if 0 < (bt140.1.length : Int) then (if 1 < (bt140.1.length : Int) then ((order_Less.f k ((rd_T23 bt140.1 0).f0) ((rd_T23 bt140.1 0).f1) ((rd_T23 bt140.1 1).f0) ((rd_T23 bt140.1 1).f1)).bind fun t175 => (if t175 = true then ((garrisonlaw06_key.f 1 3).bind fun bt176 => ((order_Merge.f bt140.1 (([(⟨bt176.1, bt176.2⟩ : S23)] : List (S23)))).bind fun t181 => (if (t181.length : Int) = 3 then ((garrisonlaw06_key.f 0 (-2)).bind fun bt184 => ((order_Check.f bt184.1 bt184.2).bind fun t186 => ((garrisonlaw06_num.f t186).bind fun t187 => (some (t187 == 2))))) else (some false)))) else (some false))) else (none)) else (none)) else (some false))) else (some false))) else (some false))) else (some false))) else (some false))) else (some false))))) else (some false)))))))) = some r := by first | (rw [hy137]; with_reducible exact H) | (have H2_ := (Option.bind_some _ _).symm.trans H; rw [hy137]; with_reducible exact H2_) | (have H2_ := (Option.bind_some _ _).symm.trans H; with_reducible exact H2_) | with_reducible exact H | (rw [hy137]; exact H) | exact H
 have Ny137 := Aside0.mk hy137
 clear hy137
 replace H := Option.bind_eq_some_iff.mp H
 obtain ⟨⟨t140, t141⟩, A40, H⟩ := H
 replace H : ((order_Key.f 9).bind fun bt144 => ((garrisonlaw06_key.f 0 8).bind fun bt148 => ((order_Sort.f (([(⟨bt148.1, bt148.2⟩ : S23)] : List (S23)))).bind fun bt153 => ((garrisonlaw06_num.f t141).bind fun t157 => ((garrisonlaw06_num.f bt144.2.2).bind fun t158 => (if (wrap64 (t157 + t158)) = 0 then ((garrisonlaw06_key.f 1 (-1)).bind fun bt159 => ((garrisonlaw06_key.f 2 0).bind fun bt161 => ((garrisonref06_Same.f k t140 (([(⟨bt159.1, bt159.2⟩ : S23), (⟨bt161.1, bt161.2⟩ : S23)] : List (S23)))).bind fun t166 => (if t166 = true then ((garrisonlaw06_key.f 1 (-1)).bind fun bt167 => (if (bt144.1 == bt167.1 && (bt144.2.1 == bt167.2)) = true then ((order_Cell.f bt144.1 bt144.2.1).bind fun t169 => (if t169 = 9 then ((garrisonlaw06_num.f bt153.2).bind fun t170 => (if t170 = 2 then ((order_Rising.f k t140).bind fun t171 => (if t171 = true then ((order_Has.f k t140 bt144.1 bt144.2.1).bind fun t172 => (if t172 = true then (if 0 < (t140.length : Int) then (if 1 < (t140.length : Int) then ((order_Less.f k ((rd_T23 t140 0).f0) ((rd_T23 t140 0).f1) ((rd_T23 t140 1).f0) ((rd_T23 t140 1).f1)).bind fun t175 => (if t175 = true then ((garrisonlaw06_key.f 1 3).bind fun bt176 => ((order_Merge.f t140 (([(⟨bt176.1, bt176.2⟩ : S23)] : List (S23)))).bind fun t181 => (if (t181.length : Int) = 3 then ((garrisonlaw06_key.f 0 (-2)).bind fun bt184 => ((order_Check.f bt184.1 bt184.2).bind fun t186 => ((garrisonlaw06_num.f t186).bind fun t187 => (some (t187 == 2))))) else (some false)))) else (some false))) else (none)) else (none)) else (some false))) else (some false))) else (some false))) else (some false))) else (some false))) else (some false))))) else (some false))))))) = some r := H
 have A4 := Aside0.mk A40
 clear A40
 replace H := Option.bind_eq_some_iff.mp H
 obtain ⟨⟨t144, t145, t146⟩, A50, H⟩ := H
 replace H : ((garrisonlaw06_key.f 0 8).bind fun bt148 => ((order_Sort.f (([(⟨bt148.1, bt148.2⟩ : S23)] : List (S23)))).bind fun bt153 => ((garrisonlaw06_num.f t141).bind fun t157 => ((garrisonlaw06_num.f t146).bind fun t158 => (if (wrap64 (t157 + t158)) = 0 then ((garrisonlaw06_key.f 1 (-1)).bind fun bt159 => ((garrisonlaw06_key.f 2 0).bind fun bt161 => ((garrisonref06_Same.f k t140 (([(⟨bt159.1, bt159.2⟩ : S23), (⟨bt161.1, bt161.2⟩ : S23)] : List (S23)))).bind fun t166 => (if t166 = true then ((garrisonlaw06_key.f 1 (-1)).bind fun bt167 => (if (t144 == bt167.1 && (t145 == bt167.2)) = true then ((order_Cell.f t144 t145).bind fun t169 => (if t169 = 9 then ((garrisonlaw06_num.f bt153.2).bind fun t170 => (if t170 = 2 then ((order_Rising.f k t140).bind fun t171 => (if t171 = true then ((order_Has.f k t140 t144 t145).bind fun t172 => (if t172 = true then (if 0 < (t140.length : Int) then (if 1 < (t140.length : Int) then ((order_Less.f k ((rd_T23 t140 0).f0) ((rd_T23 t140 0).f1) ((rd_T23 t140 1).f0) ((rd_T23 t140 1).f1)).bind fun t175 => (if t175 = true then ((garrisonlaw06_key.f 1 3).bind fun bt176 => ((order_Merge.f t140 (([(⟨bt176.1, bt176.2⟩ : S23)] : List (S23)))).bind fun t181 => (if (t181.length : Int) = 3 then ((garrisonlaw06_key.f 0 (-2)).bind fun bt184 => ((order_Check.f bt184.1 bt184.2).bind fun t186 => ((garrisonlaw06_num.f t186).bind fun t187 => (some (t187 == 2))))) else (some false)))) else (some false))) else (none)) else (none)) else (some false))) else (some false))) else (some false))) else (some false))) else (some false))) else (some false))))) else (some false)))))) = some r := H
 have A5 := Aside0.mk A50
 clear A50
 replace H := Option.bind_eq_some_iff.mp H
 obtain ⟨⟨t148, t149⟩, A60, H⟩ := H
 replace H : ((order_Sort.f (([(⟨t148, t149⟩ : S23)] : List (S23)))).bind fun bt153 => ((garrisonlaw06_num.f t141).bind fun t157 => ((garrisonlaw06_num.f t146).bind fun t158 => (if (wrap64 (t157 + t158)) = 0 then ((garrisonlaw06_key.f 1 (-1)).bind fun bt159 => ((garrisonlaw06_key.f 2 0).bind fun bt161 => ((garrisonref06_Same.f k t140 (([(⟨bt159.1, bt159.2⟩ : S23), (⟨bt161.1, bt161.2⟩ : S23)] : List (S23)))).bind fun t166 => (if t166 = true then ((garrisonlaw06_key.f 1 (-1)).bind fun bt167 => (if (t144 == bt167.1 && (t145 == bt167.2)) = true then ((order_Cell.f t144 t145).bind fun t169 => (if t169 = 9 then ((garrisonlaw06_num.f bt153.2).bind fun t170 => (if t170 = 2 then ((order_Rising.f k t140).bind fun t171 => (if t171 = true then ((order_Has.f k t140 t144 t145).bind fun t172 => (if t172 = true then (if 0 < (t140.length : Int) then (if 1 < (t140.length : Int) then ((order_Less.f k ((rd_T23 t140 0).f0) ((rd_T23 t140 0).f1) ((rd_T23 t140 1).f0) ((rd_T23 t140 1).f1)).bind fun t175 => (if t175 = true then ((garrisonlaw06_key.f 1 3).bind fun bt176 => ((order_Merge.f t140 (([(⟨bt176.1, bt176.2⟩ : S23)] : List (S23)))).bind fun t181 => (if (t181.length : Int) = 3 then ((garrisonlaw06_key.f 0 (-2)).bind fun bt184 => ((order_Check.f bt184.1 bt184.2).bind fun t186 => ((garrisonlaw06_num.f t186).bind fun t187 => (some (t187 == 2))))) else (some false)))) else (some false))) else (none)) else (none)) else (some false))) else (some false))) else (some false))) else (some false))) else (some false))) else (some false))))) else (some false))))) = some r := H
 have A6 := Aside0.mk A60
 clear A60
 obtain ⟨y150, hy150⟩ : ∃ y_ : List (S23), y_ = (([(⟨t148, t149⟩ : S23)] : List (S23))) := ⟨_, rfl⟩
 replace H : ((order_Sort.f y150).bind fun bt153 => ((garrisonlaw06_num.f t141).bind fun t157 => ((garrisonlaw06_num.f t146).bind fun t158 => (if (wrap64 (t157 + t158)) = 0 then ((garrisonlaw06_key.f 1 (-1)).bind fun bt159 => ((garrisonlaw06_key.f 2 0).bind fun bt161 => ((garrisonref06_Same.f k t140 (([(⟨bt159.1, bt159.2⟩ : S23), (⟨bt161.1, bt161.2⟩ : S23)] : List (S23)))).bind fun t166 => (if t166 = true then ((garrisonlaw06_key.f 1 (-1)).bind fun bt167 => (if (t144 == bt167.1 && (t145 == bt167.2)) = true then ((order_Cell.f t144 t145).bind fun t169 => (if t169 = 9 then ((garrisonlaw06_num.f bt153.2).bind fun t170 => (if t170 = 2 then ((order_Rising.f k t140).bind fun t171 => (if t171 = true then ((order_Has.f k t140 t144 t145).bind fun t172 => (if t172 = true then (if 0 < (t140.length : Int) then (if 1 < (t140.length : Int) then ((order_Less.f k ((rd_T23 t140 0).f0) ((rd_T23 t140 0).f1) ((rd_T23 t140 1).f0) ((rd_T23 t140 1).f1)).bind fun t175 => (if t175 = true then ((garrisonlaw06_key.f 1 3).bind fun bt176 => ((order_Merge.f t140 (([(⟨bt176.1, bt176.2⟩ : S23)] : List (S23)))).bind fun t181 => (if (t181.length : Int) = 3 then ((garrisonlaw06_key.f 0 (-2)).bind fun bt184 => ((order_Check.f bt184.1 bt184.2).bind fun t186 => ((garrisonlaw06_num.f t186).bind fun t187 => (some (t187 == 2))))) else (some false)))) else (some false))) else (none)) else (none)) else (some false))) else (some false))) else (some false))) else (some false))) else (some false))) else (some false))))) else (some false))))) = some r := by first | (rw [hy150]; with_reducible exact H) | (have H2_ := (Option.bind_some _ _).symm.trans H; rw [hy150]; with_reducible exact H2_) | (have H2_ := (Option.bind_some _ _).symm.trans H; with_reducible exact H2_) | with_reducible exact H | (rw [hy150]; exact H) | exact H
 have Ny150 := Aside0.mk hy150
 clear hy150
 replace H := Option.bind_eq_some_iff.mp H
 obtain ⟨⟨t153, t154⟩, A70, H⟩ := H
 replace H : ((garrisonlaw06_num.f t141).bind fun t157 => ((garrisonlaw06_num.f t146).bind fun t158 => (if (wrap64 (t157 + t158)) = 0 then ((garrisonlaw06_key.f 1 (-1)).bind fun bt159 => ((garrisonlaw06_key.f 2 0).bind fun bt161 => ((garrisonref06_Same.f k t140 (([(⟨bt159.1, bt159.2⟩ : S23), (⟨bt161.1, bt161.2⟩ : S23)] : List (S23)))).bind fun t166 => (if t166 = true then ((garrisonlaw06_key.f 1 (-1)).bind fun bt167 => (if (t144 == bt167.1 && (t145 == bt167.2)) = true then ((order_Cell.f t144 t145).bind fun t169 => (if t169 = 9 then ((garrisonlaw06_num.f t154).bind fun t170 => (if t170 = 2 then ((order_Rising.f k t140).bind fun t171 => (if t171 = true then ((order_Has.f k t140 t144 t145).bind fun t172 => (if t172 = true then (if 0 < (t140.length : Int) then (if 1 < (t140.length : Int) then ((order_Less.f k ((rd_T23 t140 0).f0) ((rd_T23 t140 0).f1) ((rd_T23 t140 1).f0) ((rd_T23 t140 1).f1)).bind fun t175 => (if t175 = true then ((garrisonlaw06_key.f 1 3).bind fun bt176 => ((order_Merge.f t140 (([(⟨bt176.1, bt176.2⟩ : S23)] : List (S23)))).bind fun t181 => (if (t181.length : Int) = 3 then ((garrisonlaw06_key.f 0 (-2)).bind fun bt184 => ((order_Check.f bt184.1 bt184.2).bind fun t186 => ((garrisonlaw06_num.f t186).bind fun t187 => (some (t187 == 2))))) else (some false)))) else (some false))) else (none)) else (none)) else (some false))) else (some false))) else (some false))) else (some false))) else (some false))) else (some false))))) else (some false)))) = some r := H
 have A7 := Aside0.mk A70
 clear A70
 replace H := Option.bind_eq_some_iff.mp H
 obtain ⟨t157, A80, H⟩ := H
 replace H : ((garrisonlaw06_num.f t146).bind fun t158 => (if (wrap64 (t157 + t158)) = 0 then ((garrisonlaw06_key.f 1 (-1)).bind fun bt159 => ((garrisonlaw06_key.f 2 0).bind fun bt161 => ((garrisonref06_Same.f k t140 (([(⟨bt159.1, bt159.2⟩ : S23), (⟨bt161.1, bt161.2⟩ : S23)] : List (S23)))).bind fun t166 => (if t166 = true then ((garrisonlaw06_key.f 1 (-1)).bind fun bt167 => (if (t144 == bt167.1 && (t145 == bt167.2)) = true then ((order_Cell.f t144 t145).bind fun t169 => (if t169 = 9 then ((garrisonlaw06_num.f t154).bind fun t170 => (if t170 = 2 then ((order_Rising.f k t140).bind fun t171 => (if t171 = true then ((order_Has.f k t140 t144 t145).bind fun t172 => (if t172 = true then (if 0 < (t140.length : Int) then (if 1 < (t140.length : Int) then ((order_Less.f k ((rd_T23 t140 0).f0) ((rd_T23 t140 0).f1) ((rd_T23 t140 1).f0) ((rd_T23 t140 1).f1)).bind fun t175 => (if t175 = true then ((garrisonlaw06_key.f 1 3).bind fun bt176 => ((order_Merge.f t140 (([(⟨bt176.1, bt176.2⟩ : S23)] : List (S23)))).bind fun t181 => (if (t181.length : Int) = 3 then ((garrisonlaw06_key.f 0 (-2)).bind fun bt184 => ((order_Check.f bt184.1 bt184.2).bind fun t186 => ((garrisonlaw06_num.f t186).bind fun t187 => (some (t187 == 2))))) else (some false)))) else (some false))) else (none)) else (none)) else (some false))) else (some false))) else (some false))) else (some false))) else (some false))) else (some false))))) else (some false))) = some r := H
 have A8 := Aside0.mk A80
 clear A80
 replace H := Option.bind_eq_some_iff.mp H
 obtain ⟨t158, A90, H⟩ := H
 replace H : (if (wrap64 (t157 + t158)) = 0 then ((garrisonlaw06_key.f 1 (-1)).bind fun bt159 => ((garrisonlaw06_key.f 2 0).bind fun bt161 => ((garrisonref06_Same.f k t140 (([(⟨bt159.1, bt159.2⟩ : S23), (⟨bt161.1, bt161.2⟩ : S23)] : List (S23)))).bind fun t166 => (if t166 = true then ((garrisonlaw06_key.f 1 (-1)).bind fun bt167 => (if (t144 == bt167.1 && (t145 == bt167.2)) = true then ((order_Cell.f t144 t145).bind fun t169 => (if t169 = 9 then ((garrisonlaw06_num.f t154).bind fun t170 => (if t170 = 2 then ((order_Rising.f k t140).bind fun t171 => (if t171 = true then ((order_Has.f k t140 t144 t145).bind fun t172 => (if t172 = true then (if 0 < (t140.length : Int) then (if 1 < (t140.length : Int) then ((order_Less.f k ((rd_T23 t140 0).f0) ((rd_T23 t140 0).f1) ((rd_T23 t140 1).f0) ((rd_T23 t140 1).f1)).bind fun t175 => (if t175 = true then ((garrisonlaw06_key.f 1 3).bind fun bt176 => ((order_Merge.f t140 (([(⟨bt176.1, bt176.2⟩ : S23)] : List (S23)))).bind fun t181 => (if (t181.length : Int) = 3 then ((garrisonlaw06_key.f 0 (-2)).bind fun bt184 => ((order_Check.f bt184.1 bt184.2).bind fun t186 => ((garrisonlaw06_num.f t186).bind fun t187 => (some (t187 == 2))))) else (some false)))) else (some false))) else (none)) else (none)) else (some false))) else (some false))) else (some false))) else (some false))) else (some false))) else (some false))))) else (some false)) = some r := H
 have A9 := Aside0.mk A90
 clear A90
 by_cases c10 : (wrap64 (t157 + t158)) = 0
 ·rw [if_pos c10] at H
  have c10b0 : ((wrap64 (t157 + t158)) == 0) = true := beq_iff_eq.mpr c10
  have c10b1 : ((wrap64 (t157 + t158)) != 0) = false := bne_eq_false_iff_eq.mpr c10
  clear c10
  replace H := Option.bind_eq_some_iff.mp H
  obtain ⟨⟨t159, t160⟩, A110, H⟩ := H
  replace H : ((garrisonlaw06_key.f 2 0).bind fun bt161 => ((garrisonref06_Same.f k t140 (([(⟨t159, t160⟩ : S23), (⟨bt161.1, bt161.2⟩ : S23)] : List (S23)))).bind fun t166 => (if t166 = true then ((garrisonlaw06_key.f 1 (-1)).bind fun bt167 => (if (t144 == bt167.1 && (t145 == bt167.2)) = true then ((order_Cell.f t144 t145).bind fun t169 => (if t169 = 9 then ((garrisonlaw06_num.f t154).bind fun t170 => (if t170 = 2 then ((order_Rising.f k t140).bind fun t171 => (if t171 = true then ((order_Has.f k t140 t144 t145).bind fun t172 => (if t172 = true then (if 0 < (t140.length : Int) then (if 1 < (t140.length : Int) then ((order_Less.f k ((rd_T23 t140 0).f0) ((rd_T23 t140 0).f1) ((rd_T23 t140 1).f0) ((rd_T23 t140 1).f1)).bind fun t175 => (if t175 = true then ((garrisonlaw06_key.f 1 3).bind fun bt176 => ((order_Merge.f t140 (([(⟨bt176.1, bt176.2⟩ : S23)] : List (S23)))).bind fun t181 => (if (t181.length : Int) = 3 then ((garrisonlaw06_key.f 0 (-2)).bind fun bt184 => ((order_Check.f bt184.1 bt184.2).bind fun t186 => ((garrisonlaw06_num.f t186).bind fun t187 => (some (t187 == 2))))) else (some false)))) else (some false))) else (none)) else (none)) else (some false))) else (some false))) else (some false))) else (some false))) else (some false))) else (some false)))) = some r := H
  have A11 := Aside0.mk A110
  clear A110
  replace H := Option.bind_eq_some_iff.mp H
  obtain ⟨⟨t161, t162⟩, A120, H⟩ := H
  replace H : ((garrisonref06_Same.f k t140 (([(⟨t159, t160⟩ : S23), (⟨t161, t162⟩ : S23)] : List (S23)))).bind fun t166 => (if t166 = true then ((garrisonlaw06_key.f 1 (-1)).bind fun bt167 => (if (t144 == bt167.1 && (t145 == bt167.2)) = true then ((order_Cell.f t144 t145).bind fun t169 => (if t169 = 9 then ((garrisonlaw06_num.f t154).bind fun t170 => (if t170 = 2 then ((order_Rising.f k t140).bind fun t171 => (if t171 = true then ((order_Has.f k t140 t144 t145).bind fun t172 => (if t172 = true then (if 0 < (t140.length : Int) then (if 1 < (t140.length : Int) then ((order_Less.f k ((rd_T23 t140 0).f0) ((rd_T23 t140 0).f1) ((rd_T23 t140 1).f0) ((rd_T23 t140 1).f1)).bind fun t175 => (if t175 = true then ((garrisonlaw06_key.f 1 3).bind fun bt176 => ((order_Merge.f t140 (([(⟨bt176.1, bt176.2⟩ : S23)] : List (S23)))).bind fun t181 => (if (t181.length : Int) = 3 then ((garrisonlaw06_key.f 0 (-2)).bind fun bt184 => ((order_Check.f bt184.1 bt184.2).bind fun t186 => ((garrisonlaw06_num.f t186).bind fun t187 => (some (t187 == 2))))) else (some false)))) else (some false))) else (none)) else (none)) else (some false))) else (some false))) else (some false))) else (some false))) else (some false))) else (some false))) = some r := H
  have A12 := Aside0.mk A120
  clear A120
  obtain ⟨y163, hy163⟩ : ∃ y_ : List (S23), y_ = (([(⟨t159, t160⟩ : S23), (⟨t161, t162⟩ : S23)] : List (S23))) := ⟨_, rfl⟩
  replace H : ((garrisonref06_Same.f k t140 y163).bind fun t166 => (if t166 = true then ((garrisonlaw06_key.f 1 (-1)).bind fun bt167 => (if (t144 == bt167.1 && (t145 == bt167.2)) = true then ((order_Cell.f t144 t145).bind fun t169 => (if t169 = 9 then ((garrisonlaw06_num.f t154).bind fun t170 => (if t170 = 2 then ((order_Rising.f k t140).bind fun t171 => (if t171 = true then ((order_Has.f k t140 t144 t145).bind fun t172 => (if t172 = true then (if 0 < (t140.length : Int) then (if 1 < (t140.length : Int) then ((order_Less.f k ((rd_T23 t140 0).f0) ((rd_T23 t140 0).f1) ((rd_T23 t140 1).f0) ((rd_T23 t140 1).f1)).bind fun t175 => (if t175 = true then ((garrisonlaw06_key.f 1 3).bind fun bt176 => ((order_Merge.f t140 (([(⟨bt176.1, bt176.2⟩ : S23)] : List (S23)))).bind fun t181 => (if (t181.length : Int) = 3 then ((garrisonlaw06_key.f 0 (-2)).bind fun bt184 => ((order_Check.f bt184.1 bt184.2).bind fun t186 => ((garrisonlaw06_num.f t186).bind fun t187 => (some (t187 == 2))))) else (some false)))) else (some false))) else (none)) else (none)) else (some false))) else (some false))) else (some false))) else (some false))) else (some false))) else (some false))) = some r := by first | (rw [hy163]; with_reducible exact H) | (have H2_ := (Option.bind_some _ _).symm.trans H; rw [hy163]; with_reducible exact H2_) | (have H2_ := (Option.bind_some _ _).symm.trans H; with_reducible exact H2_) | with_reducible exact H | (rw [hy163]; exact H) | exact H
  have Ny163 := Aside0.mk hy163
  clear hy163
  replace H := Option.bind_eq_some_iff.mp H
  obtain ⟨t166, A130, H⟩ := H
  replace H : (if t166 = true then ((garrisonlaw06_key.f 1 (-1)).bind fun bt167 => (if (t144 == bt167.1 && (t145 == bt167.2)) = true then ((order_Cell.f t144 t145).bind fun t169 => (if t169 = 9 then ((garrisonlaw06_num.f t154).bind fun t170 => (if t170 = 2 then ((order_Rising.f k t140).bind fun t171 => (if t171 = true then ((order_Has.f k t140 t144 t145).bind fun t172 => (if t172 = true then (if 0 < (t140.length : Int) then (if 1 < (t140.length : Int) then ((order_Less.f k ((rd_T23 t140 0).f0) ((rd_T23 t140 0).f1) ((rd_T23 t140 1).f0) ((rd_T23 t140 1).f1)).bind fun t175 => (if t175 = true then ((garrisonlaw06_key.f 1 3).bind fun bt176 => ((order_Merge.f t140 (([(⟨bt176.1, bt176.2⟩ : S23)] : List (S23)))).bind fun t181 => (if (t181.length : Int) = 3 then ((garrisonlaw06_key.f 0 (-2)).bind fun bt184 => ((order_Check.f bt184.1 bt184.2).bind fun t186 => ((garrisonlaw06_num.f t186).bind fun t187 => (some (t187 == 2))))) else (some false)))) else (some false))) else (none)) else (none)) else (some false))) else (some false))) else (some false))) else (some false))) else (some false))) else (some false)) = some r := H
  have A13 := Aside0.mk A130
  clear A130
  by_cases c14 : t166 = true
  ·subst c14
   have H1 : ((garrisonlaw06_key.f 1 (-1)).bind fun bt167 => (if (t144 == bt167.1 && (t145 == bt167.2)) = true then ((order_Cell.f t144 t145).bind fun t169 => (if t169 = 9 then ((garrisonlaw06_num.f t154).bind fun t170 => (if t170 = 2 then ((order_Rising.f k t140).bind fun t171 => (if t171 = true then ((order_Has.f k t140 t144 t145).bind fun t172 => (if t172 = true then (if 0 < (t140.length : Int) then (if 1 < (t140.length : Int) then ((order_Less.f k ((rd_T23 t140 0).f0) ((rd_T23 t140 0).f1) ((rd_T23 t140 1).f0) ((rd_T23 t140 1).f1)).bind fun t175 => (if t175 = true then ((garrisonlaw06_key.f 1 3).bind fun bt176 => ((order_Merge.f t140 (([(⟨bt176.1, bt176.2⟩ : S23)] : List (S23)))).bind fun t181 => (if (t181.length : Int) = 3 then ((garrisonlaw06_key.f 0 (-2)).bind fun bt184 => ((order_Check.f bt184.1 bt184.2).bind fun t186 => ((garrisonlaw06_num.f t186).bind fun t187 => (some (t187 == 2))))) else (some false)))) else (some false))) else (none)) else (none)) else (some false))) else (some false))) else (some false))) else (some false))) else (some false))) = some r := by rw [if_pos rfl] at H; exact H
   clear H
   have H := H1
   clear H1
   replace H := Option.bind_eq_some_iff.mp H
   obtain ⟨⟨t167, t168⟩, A150, H⟩ := H
   replace H : (if (t144 == t167 && (t145 == t168)) = true then ((order_Cell.f t144 t145).bind fun t169 => (if t169 = 9 then ((garrisonlaw06_num.f t154).bind fun t170 => (if t170 = 2 then ((order_Rising.f k t140).bind fun t171 => (if t171 = true then ((order_Has.f k t140 t144 t145).bind fun t172 => (if t172 = true then (if 0 < (t140.length : Int) then (if 1 < (t140.length : Int) then ((order_Less.f k ((rd_T23 t140 0).f0) ((rd_T23 t140 0).f1) ((rd_T23 t140 1).f0) ((rd_T23 t140 1).f1)).bind fun t175 => (if t175 = true then ((garrisonlaw06_key.f 1 3).bind fun bt176 => ((order_Merge.f t140 (([(⟨bt176.1, bt176.2⟩ : S23)] : List (S23)))).bind fun t181 => (if (t181.length : Int) = 3 then ((garrisonlaw06_key.f 0 (-2)).bind fun bt184 => ((order_Check.f bt184.1 bt184.2).bind fun t186 => ((garrisonlaw06_num.f t186).bind fun t187 => (some (t187 == 2))))) else (some false)))) else (some false))) else (none)) else (none)) else (some false))) else (some false))) else (some false))) else (some false))) else (some false)) = some r := H
   have A15 := Aside0.mk A150
   clear A150
   by_cases c16 : (t144 == t167 && (t145 == t168)) = true
   ·rw [if_pos c16] at H
    have c16b0 : (t144 == t167 && (t145 == t168)) = true := c16
    (try (have c16b1 : decide (t144 = t167 && (t145 == t168)) = true := by simpa using c16))
    (try (have c16b2 : (t144 == t167 && (t145 == t168)) = true := by simpa using c16))
    clear c16
    replace H := Option.bind_eq_some_iff.mp H
    obtain ⟨t169, A170, H⟩ := H
    replace H : (if t169 = 9 then ((garrisonlaw06_num.f t154).bind fun t170 => (if t170 = 2 then ((order_Rising.f k t140).bind fun t171 => (if t171 = true then ((order_Has.f k t140 t144 t145).bind fun t172 => (if t172 = true then (if 0 < (t140.length : Int) then (if 1 < (t140.length : Int) then ((order_Less.f k ((rd_T23 t140 0).f0) ((rd_T23 t140 0).f1) ((rd_T23 t140 1).f0) ((rd_T23 t140 1).f1)).bind fun t175 => (if t175 = true then ((garrisonlaw06_key.f 1 3).bind fun bt176 => ((order_Merge.f t140 (([(⟨bt176.1, bt176.2⟩ : S23)] : List (S23)))).bind fun t181 => (if (t181.length : Int) = 3 then ((garrisonlaw06_key.f 0 (-2)).bind fun bt184 => ((order_Check.f bt184.1 bt184.2).bind fun t186 => ((garrisonlaw06_num.f t186).bind fun t187 => (some (t187 == 2))))) else (some false)))) else (some false))) else (none)) else (none)) else (some false))) else (some false))) else (some false))) else (some false)) = some r := H
    have A17 := Aside0.mk A170
    clear A170
    by_cases c18 : t169 = 9
    ·rw [if_pos c18] at H
     have c18b0 : (t169 == 9) = true := beq_iff_eq.mpr c18
     have c18b1 : (t169 != 9) = false := bne_eq_false_iff_eq.mpr c18
     clear c18
     replace H := Option.bind_eq_some_iff.mp H
     obtain ⟨t170, A190, H⟩ := H
     replace H : (if t170 = 2 then ((order_Rising.f k t140).bind fun t171 => (if t171 = true then ((order_Has.f k t140 t144 t145).bind fun t172 => (if t172 = true then (if 0 < (t140.length : Int) then (if 1 < (t140.length : Int) then ((order_Less.f k ((rd_T23 t140 0).f0) ((rd_T23 t140 0).f1) ((rd_T23 t140 1).f0) ((rd_T23 t140 1).f1)).bind fun t175 => (if t175 = true then ((garrisonlaw06_key.f 1 3).bind fun bt176 => ((order_Merge.f t140 (([(⟨bt176.1, bt176.2⟩ : S23)] : List (S23)))).bind fun t181 => (if (t181.length : Int) = 3 then ((garrisonlaw06_key.f 0 (-2)).bind fun bt184 => ((order_Check.f bt184.1 bt184.2).bind fun t186 => ((garrisonlaw06_num.f t186).bind fun t187 => (some (t187 == 2))))) else (some false)))) else (some false))) else (none)) else (none)) else (some false))) else (some false))) else (some false)) = some r := H
     have A19 := Aside0.mk A190
     clear A190
     by_cases c20 : t170 = 2
     ·rw [if_pos c20] at H
      have c20b0 : (t170 == 2) = true := beq_iff_eq.mpr c20
      have c20b1 : (t170 != 2) = false := bne_eq_false_iff_eq.mpr c20
      clear c20
      replace H := Option.bind_eq_some_iff.mp H
      obtain ⟨t171, A210, H⟩ := H
      replace H : (if t171 = true then ((order_Has.f k t140 t144 t145).bind fun t172 => (if t172 = true then (if 0 < (t140.length : Int) then (if 1 < (t140.length : Int) then ((order_Less.f k ((rd_T23 t140 0).f0) ((rd_T23 t140 0).f1) ((rd_T23 t140 1).f0) ((rd_T23 t140 1).f1)).bind fun t175 => (if t175 = true then ((garrisonlaw06_key.f 1 3).bind fun bt176 => ((order_Merge.f t140 (([(⟨bt176.1, bt176.2⟩ : S23)] : List (S23)))).bind fun t181 => (if (t181.length : Int) = 3 then ((garrisonlaw06_key.f 0 (-2)).bind fun bt184 => ((order_Check.f bt184.1 bt184.2).bind fun t186 => ((garrisonlaw06_num.f t186).bind fun t187 => (some (t187 == 2))))) else (some false)))) else (some false))) else (none)) else (none)) else (some false))) else (some false)) = some r := H
      have A21 := Aside0.mk A210
      clear A210
      by_cases c22 : t171 = true
      ·subst c22
       have H1 : ((order_Has.f k t140 t144 t145).bind fun t172 => (if t172 = true then (if 0 < (t140.length : Int) then (if 1 < (t140.length : Int) then ((order_Less.f k ((rd_T23 t140 0).f0) ((rd_T23 t140 0).f1) ((rd_T23 t140 1).f0) ((rd_T23 t140 1).f1)).bind fun t175 => (if t175 = true then ((garrisonlaw06_key.f 1 3).bind fun bt176 => ((order_Merge.f t140 (([(⟨bt176.1, bt176.2⟩ : S23)] : List (S23)))).bind fun t181 => (if (t181.length : Int) = 3 then ((garrisonlaw06_key.f 0 (-2)).bind fun bt184 => ((order_Check.f bt184.1 bt184.2).bind fun t186 => ((garrisonlaw06_num.f t186).bind fun t187 => (some (t187 == 2))))) else (some false)))) else (some false))) else (none)) else (none)) else (some false))) = some r := by rw [if_pos rfl] at H; exact H
       clear H
       have H := H1
       clear H1
       replace H := Option.bind_eq_some_iff.mp H
       obtain ⟨t172, A230, H⟩ := H
       replace H : (if t172 = true then (if 0 < (t140.length : Int) then (if 1 < (t140.length : Int) then ((order_Less.f k ((rd_T23 t140 0).f0) ((rd_T23 t140 0).f1) ((rd_T23 t140 1).f0) ((rd_T23 t140 1).f1)).bind fun t175 => (if t175 = true then ((garrisonlaw06_key.f 1 3).bind fun bt176 => ((order_Merge.f t140 (([(⟨bt176.1, bt176.2⟩ : S23)] : List (S23)))).bind fun t181 => (if (t181.length : Int) = 3 then ((garrisonlaw06_key.f 0 (-2)).bind fun bt184 => ((order_Check.f bt184.1 bt184.2).bind fun t186 => ((garrisonlaw06_num.f t186).bind fun t187 => (some (t187 == 2))))) else (some false)))) else (some false))) else (none)) else (none)) else (some false)) = some r := H
       have A23 := Aside0.mk A230
       clear A230
       by_cases c24 : t172 = true
       ·subst c24
        have H1 : (if 0 < (t140.length : Int) then (if 1 < (t140.length : Int) then ((order_Less.f k ((rd_T23 t140 0).f0) ((rd_T23 t140 0).f1) ((rd_T23 t140 1).f0) ((rd_T23 t140 1).f1)).bind fun t175 => (if t175 = true then ((garrisonlaw06_key.f 1 3).bind fun bt176 => ((order_Merge.f t140 (([(⟨bt176.1, bt176.2⟩ : S23)] : List (S23)))).bind fun t181 => (if (t181.length : Int) = 3 then ((garrisonlaw06_key.f 0 (-2)).bind fun bt184 => ((order_Check.f bt184.1 bt184.2).bind fun t186 => ((garrisonlaw06_num.f t186).bind fun t187 => (some (t187 == 2))))) else (some false)))) else (some false))) else (none)) else (none)) = some r := by rw [if_pos rfl] at H; exact H
        clear H
        have H := H1
        clear H1
        by_cases c25 : 0 < (t140.length : Int)
        ·rw [if_pos c25] at H
         have c25b0 : decide (0 < (t140.length : Int)) = true := decide_eq_true c25
         have c25b1 : decide (0 < t140.length) = true := decide_eq_true (by omega)
         clear c25
         by_cases c26 : 1 < (t140.length : Int)
         ·rw [if_pos c26] at H
          have c26b0 : decide (1 < (t140.length : Int)) = true := decide_eq_true c26
          have c26b1 : decide (1 < t140.length) = true := decide_eq_true (by omega)
          clear c26
          replace H := Option.bind_eq_some_iff.mp H
          obtain ⟨t175, A270, H⟩ := H
          replace H : (if t175 = true then ((garrisonlaw06_key.f 1 3).bind fun bt176 => ((order_Merge.f t140 (([(⟨bt176.1, bt176.2⟩ : S23)] : List (S23)))).bind fun t181 => (if (t181.length : Int) = 3 then ((garrisonlaw06_key.f 0 (-2)).bind fun bt184 => ((order_Check.f bt184.1 bt184.2).bind fun t186 => ((garrisonlaw06_num.f t186).bind fun t187 => (some (t187 == 2))))) else (some false)))) else (some false)) = some r := H
          have A27 := Aside0.mk A270
          clear A270
          by_cases c28 : t175 = true
          ·subst c28
           have H1 : ((garrisonlaw06_key.f 1 3).bind fun bt176 => ((order_Merge.f t140 (([(⟨bt176.1, bt176.2⟩ : S23)] : List (S23)))).bind fun t181 => (if (t181.length : Int) = 3 then ((garrisonlaw06_key.f 0 (-2)).bind fun bt184 => ((order_Check.f bt184.1 bt184.2).bind fun t186 => ((garrisonlaw06_num.f t186).bind fun t187 => (some (t187 == 2))))) else (some false)))) = some r := by rw [if_pos rfl] at H; exact H
           clear H
           have H := H1
           clear H1
           replace H := Option.bind_eq_some_iff.mp H
           obtain ⟨⟨t176, t177⟩, A290, H⟩ := H
           replace H : ((order_Merge.f t140 (([(⟨t176, t177⟩ : S23)] : List (S23)))).bind fun t181 => (if (t181.length : Int) = 3 then ((garrisonlaw06_key.f 0 (-2)).bind fun bt184 => ((order_Check.f bt184.1 bt184.2).bind fun t186 => ((garrisonlaw06_num.f t186).bind fun t187 => (some (t187 == 2))))) else (some false))) = some r := H
           have A29 := Aside0.mk A290
           clear A290
           obtain ⟨y178, hy178⟩ : ∃ y_ : List (S23), y_ = (([(⟨t176, t177⟩ : S23)] : List (S23))) := ⟨_, rfl⟩
           replace H : ((order_Merge.f t140 y178).bind fun t181 => (if (t181.length : Int) = 3 then ((garrisonlaw06_key.f 0 (-2)).bind fun bt184 => ((order_Check.f bt184.1 bt184.2).bind fun t186 => ((garrisonlaw06_num.f t186).bind fun t187 => (some (t187 == 2))))) else (some false))) = some r := by first | (rw [hy178]; with_reducible exact H) | (have H2_ := (Option.bind_some _ _).symm.trans H; rw [hy178]; with_reducible exact H2_) | (have H2_ := (Option.bind_some _ _).symm.trans H; with_reducible exact H2_) | with_reducible exact H | (rw [hy178]; exact H) | exact H
           have Ny178 := Aside0.mk hy178
           clear hy178
           replace H := Option.bind_eq_some_iff.mp H
           obtain ⟨t181, A300, H⟩ := H
           replace H : (if (t181.length : Int) = 3 then ((garrisonlaw06_key.f 0 (-2)).bind fun bt184 => ((order_Check.f bt184.1 bt184.2).bind fun t186 => ((garrisonlaw06_num.f t186).bind fun t187 => (some (t187 == 2))))) else (some false)) = some r := H
           have A30 := Aside0.mk A300
           clear A300
           by_cases c31 : (t181.length : Int) = 3
           ·rw [if_pos c31] at H
            have c31b0 : ((t181.length : Int) == 3) = true := beq_iff_eq.mpr c31
            have c31b1 : ((t181.length : Int) != 3) = false := bne_eq_false_iff_eq.mpr c31
            clear c31
            replace H := Option.bind_eq_some_iff.mp H
            obtain ⟨⟨t184, t185⟩, A320, H⟩ := H
            replace H : ((order_Check.f t184 t185).bind fun t186 => ((garrisonlaw06_num.f t186).bind fun t187 => (some (t187 == 2)))) = some r := H
            have A32 := Aside0.mk A320
            clear A320
            replace H := Option.bind_eq_some_iff.mp H
            obtain ⟨t186, A330, H⟩ := H
            replace H : ((garrisonlaw06_num.f t186).bind fun t187 => (some (t187 == 2))) = some r := H
            have A33 := Aside0.mk A330
            clear A330
            replace H := Option.bind_eq_some_iff.mp H
            obtain ⟨t187, A340, H⟩ := H
            replace H : (some (t187 == 2)) = some r := H
            have A34 := Aside0.mk A340
            clear A340
            obtain rfl := Option.some.inj H
            go_enter Try.func19, Try.ntmps19
            try go_wp2_with (first | ((with_reducible refine gate_callee (f := 29) rfl ?_); refine goesL_ (some 8) rfl rfl Try.func29 (by kernel_rfl) rfl #[.int .i64 2, .int .i64 0] rfl (by (try simp only [List.map_toArray, List.map_cons, List.map_nil]); first | done | rfl | (simp only [List.length_drop, List.length_take]; rfl)) ?_; (with_reducible refine (garrisonlaw06_key.calls 2 0 t131 t132 _ A1.out).mono ?_); rintro e w35 ⟨rfl, hb⟩; refine ⟨_, rfl, ?_⟩; have n0_ := Aside0.mk (below_step (by repeat (first | (with_reducible first | exact HB.out | apply below_alloc | apply pw_below_drewN | apply below_drew1) | exact HB.out)) hb); clear HB; have HB := n0_; clear n0_; (try clear hb); (try clear hb2); (try clear hk); (try clear hi)) | ((with_reducible refine gate_callee (f := 29) rfl ?_); refine goesL_ (some 9) rfl rfl Try.func29 (by kernel_rfl) rfl #[.int .i64 1, .int .i64 (-1)] rfl (by (try simp only [List.map_toArray, List.map_cons, List.map_nil]); first | done | rfl | (simp only [List.length_drop, List.length_take]; rfl)) ?_; (with_reducible refine (garrisonlaw06_key.calls 1 (-1) t133 t134 _ A2.out).mono ?_); rintro e w36 ⟨rfl, hb⟩; refine ⟨_, rfl, ?_⟩; have n0_ := Aside0.mk (below_step (by repeat (first | (with_reducible first | exact HB.out | apply below_alloc | apply pw_below_drewN | apply below_drew1) | exact HB.out)) hb); clear HB; have HB := n0_; clear n0_; (try clear hb); (try clear hb2); (try clear hk); (try clear hi)) | ((with_reducible refine gate_callee (f := 29) rfl ?_); refine goesL_ (some 10) rfl rfl Try.func29 (by kernel_rfl) rfl #[.int .i64 2, .int .i64 0] rfl (by (try simp only [List.map_toArray, List.map_cons, List.map_nil]); first | done | rfl | (simp only [List.length_drop, List.length_take]; rfl)) ?_; (with_reducible refine (garrisonlaw06_key.calls 2 0 t135 t136 _ A3.out).mono ?_); rintro e w37 ⟨rfl, hb⟩; refine ⟨_, rfl, ?_⟩; have n0_ := Aside0.mk (below_step (by repeat (first | (with_reducible first | exact HB.out | apply below_alloc | apply pw_below_drewN | apply below_drew1) | exact HB.out)) hb); clear HB; have HB := n0_; clear n0_; (try clear hb); (try clear hb2); (try clear hk); (try clear hi)) | ((with_reducible refine gate_dst (N := 11) rfl ?_); (try (refine gate_guard (by rfl) ?_; dsimp only)); refine Kd.R_lit k23 _ 23 ?hg (N := 11) ?hd (xs := ([(⟨t131, t132⟩ : S23), (⟨t133, t134⟩ : S23), (⟨t135, t136⟩ : S23)] : List (S23))) (inner := [.int .i64 t131, .int .i64 t132, .int .i64 t133, .int .i64 t134, .int .i64 t135, .int .i64 t136]) (ok := fun _ => True) (okp := fun _ => True) ?hr ?hp (fun _ hk => hk) trivial (Below.refl _ _) (Nat.le_refl _) (by simp) ?_; (case hd => rfl); (case hg => rfl); (case hr => first | (go_simp; done) | (go_simp; rfl)); (case hp => exact (Reps.c2 (show Kd.M k23 _ _ _ (⟨t131, t132⟩ : S23) [.int .i64 t131, .int .i64 t132] from (k23_mkM _ _ _ (⟨t131, t132⟩ : S23) )) (Reps.c2 (show Kd.M k23 _ _ _ (⟨t133, t134⟩ : S23) [.int .i64 t133, .int .i64 t134] from (k23_mkM _ _ _ (⟨t133, t134⟩ : S23) )) (Reps.c2 (show Kd.M k23 _ _ _ (⟨t135, t136⟩ : S23) [.int .i64 t135, .int .i64 t136] from (k23_mkM _ _ _ (⟨t135, t136⟩ : S23) )) (Reps.none _ _))))); intro v138 w38 ho39 hb hg_ hnew_; clear hg_ hnew_; (first | rw [← Ny137.out] at ho39 | (simp only [Int.reduceToNat] at ho39; rw [← Ny137.out] at ho39)); have n0_ := Aside0.mk (Kd.R_lower ho39 (below_size (by repeat (first | (with_reducible first | exact HB.out | apply below_alloc | apply pw_below_drewN | apply below_drew1) | exact HB.out)))); have n1_ := Aside0.mk (below_step (by repeat (first | (with_reducible first | exact HB.out | apply below_alloc | apply pw_below_drewN | apply below_drew1) | exact HB.out)) hb); clear HB; have HO139 := n0_; have HB := n1_; clear n0_ n1_; clear hb ho39; obtain ⟨Ao40, co40, eo40⟩ := Kd.R_slice HO139.out; subst eo40) | ((with_reducible refine gate_callee (f := 20) rfl ?_); refine goesL_ (some 12) rfl rfl Try.func20 (by kernel_rfl) rfl #[.slice Ao40 y137.length co40] rfl (by (try simp only [List.map_toArray, List.map_cons, List.map_nil]); first | done | rfl | (simp only [List.length_drop, List.length_take]; rfl)) ?_; (with_reducible refine (order_Sort.calls _ _ y137 t140 t141 _ ?side1 ?side2 A4.out).mono ?_); (case side1 => repeat (first | exact (Kd.R_reads' HO139.out).2.2 | (with_reducible refine Kd.C_alloc ?_ _) | (with_reducible refine Kd.C_drewN ?_ _) | (with_reducible refine Kd.C_drew ?_))); (case side2 => exact (Kd.R_reads' HO139.out).2.1); rintro e w41 ⟨v142, rfl, ho0, hb⟩; refine ⟨_, rfl, ?_⟩; have n0_ := Aside0.mk (Kd.R_elder' (by (with_reducible repeat (first | apply Kd.R_alloc | apply Kd.R_drewN | apply Kd.R_drew)); exact HO139.out) (Kd.R_base ho0) hb); have n1_ := Aside0.mk (Kd.R_lower (Kd.R_new' ho0 (Kd.R_lt (by (with_reducible repeat (first | apply Kd.R_alloc | apply Kd.R_drewN | apply Kd.R_drew)); exact HO139.out))) (below_size (by repeat (first | (with_reducible first | exact HB.out | apply below_alloc | apply pw_below_drewN | apply below_drew1) | exact HB.out)))); have n2_ := Aside0.mk (below_step (by repeat (first | (with_reducible first | exact HB.out | apply below_alloc | apply pw_below_drewN | apply below_drew1) | exact HB.out)) hb); clear HO139; clear HB; have HO139 := n0_; have HO143 := n1_; have HB := n2_; clear n0_ n1_ n2_; (try clear hb); (try clear hb2); (try clear hk); (try clear hi); (try clear ho0)) | ((with_reducible refine gate_callee (f := 10) rfl ?_); refine goesL_ (some 16) rfl rfl Try.func10 (by kernel_rfl) rfl #[.int .i64 9] rfl (by (try simp only [List.map_toArray, List.map_cons, List.map_nil]); first | done | rfl | (simp only [List.length_drop, List.length_take]; rfl)) ?_; (with_reducible refine (order_Key.calls 9 t144 t145 t146 _ A5.out).mono ?_); rintro e w42 ⟨rfl, hb⟩; refine ⟨_, rfl, ?_⟩; have n0_ := Aside0.mk (Kd.R_below (by (with_reducible repeat (first | apply Kd.R_alloc | apply Kd.R_drewN | apply Kd.R_drew)); exact HO139.out) hb); have n1_ := Aside0.mk (Kd.R_below (by (with_reducible repeat (first | apply Kd.R_alloc | apply Kd.R_drewN | apply Kd.R_drew)); exact HO143.out) hb); have n2_ := Aside0.mk (below_step (by repeat (first | (with_reducible first | exact HB.out | apply below_alloc | apply pw_below_drewN | apply below_drew1) | exact HB.out)) hb); clear HO139; clear HO143; clear HB; have HO139 := n0_; have HO143 := n1_; have HB := n2_; clear n0_ n1_ n2_; (try clear hb); (try clear hb2); (try clear hk); (try clear hi)) | ((with_reducible refine gate_dst (N := 3) rfl ?_); (try (refine gate_guard (by rfl) ?_; dsimp only)); refine box_event ?hg (N := 3) ?hd (cs := #[.int .i64 0, .int .i64 0]) (t := 23) ?hr ?_; (case hd => rfl); (case hg => rfl); (case hr => first | (go_simp; done) | (go_simp; rfl)); intro gb147 hg w43 hbox hb; have n0_ := Aside0.mk (Kd.R_below (Kd.R_elderB (by (with_reducible repeat (first | apply Kd.R_alloc | apply Kd.R_drewN | apply Kd.R_drew)); exact HO139.out) gb147 (Nat.le_of_eq hg.symm)) hb); have n1_ := Aside0.mk (Kd.R_below (Kd.R_elderB (by (with_reducible repeat (first | apply Kd.R_alloc | apply Kd.R_drewN | apply Kd.R_drew)); exact HO143.out) gb147 (Nat.le_of_eq hg.symm)) hb); have n2_ := Aside0.mk (below_step (by repeat (first | (with_reducible first | exact HB.out | apply below_alloc | apply pw_below_drewN | apply below_drew1) | exact HB.out)) hb); have n3_ := Aside0.mk (hbox); have n4_ := Aside0.mk ((by rw [hg]; exact (below_size (by repeat (first | (with_reducible first | exact HB.out | apply below_alloc | apply pw_below_drewN | apply below_drew1) | exact HB.out))) : w.heap.size ≤ gb147)); have n5_ := Aside0.mk ((by rw [hg]; exact (below_size (by repeat (first | (with_reducible first | exact HB.out | apply below_alloc | apply pw_below_drewN | apply below_drew1) | exact HB.out))) : w.heap.size ≤ gb147)); clear HO139; clear HO143; clear HB; have HO139 := n0_; have HO143 := n1_; have HB := n2_; have BK147 := n3_; have GW147 := n4_; have GE147 := n5_; clear n0_ n1_ n2_ n3_ n4_ n5_; clear hb hbox hg; have hcz44_0 : w43.cell? ⟨gb147, 0, none⟩ = some (.int .i64 0) := (blk_cell BK147.out 0).trans rfl; have hcz44_1 : w43.cell? ⟨gb147, 1, none⟩ = some (.int .i64 0) := (blk_cell BK147.out 1).trans rfl; have hfz44_0 := blk_frozen BK147.out 0; have hfz44_1 := blk_frozen BK147.out 1) | ((with_reducible refine gate_callee (f := 29) rfl ?_); refine goesL_ (some 20) rfl rfl Try.func29 (by kernel_rfl) rfl #[.int .i64 0, .int .i64 8] rfl (by (try simp only [List.map_toArray, List.map_cons, List.map_nil]); first | done | rfl | (simp only [List.length_drop, List.length_take]; rfl)) ?_; (with_reducible refine (garrisonlaw06_key.calls 0 8 t148 t149 _ A6.out).mono ?_); rintro e w45 ⟨rfl, hb⟩; refine ⟨_, rfl, ?_⟩; have n0_ := Aside0.mk (Kd.R_below (by (with_reducible repeat (first | apply Kd.R_alloc | apply Kd.R_drewN | apply Kd.R_drew)); exact (Kd.R_mono (Kd.R_far (p := ⟨gb147, 1, none⟩) (Kd.R_far (p := ⟨gb147, 0, none⟩) (Kd.R_mono HO139.out (fun k_ hk => (⟨hk, hk.2⟩ : _ ∧ k_ ≠ gb147))) (fun _ hk => hk.2) (.int .i64 t144)) (fun _ hk => hk.2) (.int .i64 t145)) (fun _ h_ => h_.1))) hb); have n1_ := Aside0.mk (Kd.R_below (by (with_reducible repeat (first | apply Kd.R_alloc | apply Kd.R_drewN | apply Kd.R_drew)); exact (Kd.R_mono (Kd.R_far (p := ⟨gb147, 1, none⟩) (Kd.R_far (p := ⟨gb147, 0, none⟩) (Kd.R_mono HO143.out (fun k_ hk => (⟨hk, hk.2⟩ : _ ∧ k_ ≠ gb147))) (fun _ hk => hk.2) (.int .i64 t144)) (fun _ hk => hk.2) (.int .i64 t145)) (fun _ h_ => h_.1))) hb); have n2_ := Aside0.mk (blk_below (g := gb147) (o := .cells #[.int .i64 t144, .int .i64 t145] 23 (0, 0)) (by (with_reducible repeat (first | refine blk_drewN ?_ _ | refine blk_drew ?_ | refine blk_alloc ?_ _)); refine blk_put (cs := #[.int .i64 t144, .int .i64 0]) ?_ 1 _ rfl; (with_reducible repeat (first | refine blk_drewN ?_ _ | refine blk_drew ?_ | refine blk_alloc ?_ _)); refine blk_put (cs := #[.int .i64 0, .int .i64 0]) ?_ 0 _ rfl; (with_reducible repeat (first | refine blk_drewN ?_ _ | refine blk_drew ?_ | refine blk_alloc ?_ _)); exact BK147.out) hb); have n3_ := Aside0.mk (below_step (by repeat (first | (with_reducible first | exact HB.out | apply below_alloc | apply pw_below_drewN | apply below_drew1 | refine below_set ?_ GE147.out) | exact HB.out)) hb); clear HO139; clear HO143; clear BK147; clear HB; have HO139 := n0_; have HO143 := n1_; have BK147 := n2_; have HB := n3_; clear n0_ n1_ n2_ n3_; (try clear hb); (try clear hb2); (try clear hk); (try clear hi)) | ((with_reducible refine gate_dst (N := 21) rfl ?_); (try (refine gate_guard (by rfl) ?_; dsimp only)); refine Kd.R_lit k23 _ 23 ?hg (N := 21) ?hd (xs := ([(⟨t148, t149⟩ : S23)] : List (S23))) (inner := [.int .i64 t148, .int .i64 t149]) (ok := fun _ => True) (okp := fun _ => True) ?hr ?hp (fun _ hk => hk) trivial (Below.refl _ _) (Nat.le_refl _) (by simp) ?_; (case hd => rfl); (case hg => rfl); (case hr => first | (go_simp; done) | (go_simp; rfl)); (case hp => exact (Reps.c2 (show Kd.M k23 _ _ _ (⟨t148, t149⟩ : S23) [.int .i64 t148, .int .i64 t149] from (k23_mkM _ _ _ (⟨t148, t149⟩ : S23) )) (Reps.none _ _))); intro v151 w46 ho47 hb hg_ hnew_; clear hg_ hnew_; (first | rw [← Ny150.out] at ho47 | (simp only [Int.reduceToNat] at ho47; rw [← Ny150.out] at ho47)); have n0_ := Aside0.mk (Kd.R_elder' (by (with_reducible repeat (first | apply Kd.R_alloc | apply Kd.R_drewN | apply Kd.R_drew)); exact HO139.out) (Kd.R_base ho47) hb); have n1_ := Aside0.mk (Kd.R_elder' (by (with_reducible repeat (first | apply Kd.R_alloc | apply Kd.R_drewN | apply Kd.R_drew)); exact HO143.out) (Kd.R_base ho47) hb); have n2_ := Aside0.mk (Kd.R_lower (Kd.R_newB (Kd.R_new' (Kd.R_new' ho47 (Kd.R_lt (by (with_reducible repeat (first | apply Kd.R_alloc | apply Kd.R_drewN | apply Kd.R_drew)); exact HO139.out))) (Kd.R_lt (by (with_reducible repeat (first | apply Kd.R_alloc | apply Kd.R_drewN | apply Kd.R_drew)); exact HO143.out))) (g := gb147) (o := .cells #[.int .i64 t144, .int .i64 t145] 23 (0, 0)) (by (with_reducible repeat (first | refine blk_drewN ?_ _ | refine blk_drew ?_ | refine blk_alloc ?_ _)); exact BK147.out)) (below_size (by repeat (first | (with_reducible first | exact HB.out | apply below_alloc | apply pw_below_drewN | apply below_drew1 | refine below_set ?_ GE147.out) | exact HB.out)))); have n3_ := Aside0.mk (blk_below (g := gb147) (o := .cells #[.int .i64 t144, .int .i64 t145] 23 (0, 0)) (by (with_reducible repeat (first | refine blk_drewN ?_ _ | refine blk_drew ?_ | refine blk_alloc ?_ _)); exact BK147.out) hb); have n4_ := Aside0.mk (below_step (by repeat (first | (with_reducible first | exact HB.out | apply below_alloc | apply pw_below_drewN | apply below_drew1 | refine below_set ?_ GE147.out) | exact HB.out)) hb); clear HO139; clear HO143; clear BK147; clear HB; have HO139 := n0_; have HO143 := n1_; have HO152 := n2_; have BK147 := n3_; have HB := n4_; clear n0_ n1_ n2_ n3_ n4_; clear hb ho47; obtain ⟨Ao48, co48, eo48⟩ := Kd.R_slice HO152.out; subst eo48) | ((with_reducible refine gate_callee (f := 20) rfl ?_); refine goesL_ (some 22) rfl rfl Try.func20 (by kernel_rfl) rfl #[.slice Ao48 y150.length co48] rfl (by (try simp only [List.map_toArray, List.map_cons, List.map_nil]); first | done | rfl | (simp only [List.length_drop, List.length_take]; rfl)) ?_; (with_reducible refine (order_Sort.calls _ _ y150 t153 t154 _ ?side1 ?side2 A7.out).mono ?_); (case side1 => repeat (first | exact (Kd.R_reads' HO152.out).2.2 | (with_reducible refine Kd.C_alloc ?_ _) | (with_reducible refine Kd.C_drewN ?_ _) | (with_reducible refine Kd.C_drew ?_))); (case side2 => exact (Kd.R_reads' HO152.out).2.1); rintro e w49 ⟨v155, rfl, ho0, hb⟩; refine ⟨_, rfl, ?_⟩; have n0_ := Aside0.mk (Kd.R_elder' (by (with_reducible repeat (first | apply Kd.R_alloc | apply Kd.R_drewN | apply Kd.R_drew)); exact HO139.out) (Kd.R_base ho0) hb); have n1_ := Aside0.mk (Kd.R_elder' (by (with_reducible repeat (first | apply Kd.R_alloc | apply Kd.R_drewN | apply Kd.R_drew)); exact HO143.out) (Kd.R_base ho0) hb); have n2_ := Aside0.mk (Kd.R_elder' (by (with_reducible repeat (first | apply Kd.R_alloc | apply Kd.R_drewN | apply Kd.R_drew)); exact HO152.out) (Kd.R_base ho0) hb); have n3_ := Aside0.mk (Kd.R_lower (Kd.R_newB (Kd.R_new' (Kd.R_new' (Kd.R_new' ho0 (Kd.R_lt (by (with_reducible repeat (first | apply Kd.R_alloc | apply Kd.R_drewN | apply Kd.R_drew)); exact HO139.out))) (Kd.R_lt (by (with_reducible repeat (first | apply Kd.R_alloc | apply Kd.R_drewN | apply Kd.R_drew)); exact HO143.out))) (Kd.R_lt (by (with_reducible repeat (first | apply Kd.R_alloc | apply Kd.R_drewN | apply Kd.R_drew)); exact HO152.out))) (g := gb147) (o := .cells #[.int .i64 t144, .int .i64 t145] 23 (0, 0)) (by (with_reducible repeat (first | refine blk_drewN ?_ _ | refine blk_drew ?_ | refine blk_alloc ?_ _)); exact BK147.out)) (below_size (by repeat (first | (with_reducible first | exact HB.out | apply below_alloc | apply pw_below_drewN | apply below_drew1 | refine below_set ?_ GE147.out) | exact HB.out)))); have n4_ := Aside0.mk (blk_below (g := gb147) (o := .cells #[.int .i64 t144, .int .i64 t145] 23 (0, 0)) (by (with_reducible repeat (first | refine blk_drewN ?_ _ | refine blk_drew ?_ | refine blk_alloc ?_ _)); exact BK147.out) hb); have n5_ := Aside0.mk (below_step (by repeat (first | (with_reducible first | exact HB.out | apply below_alloc | apply pw_below_drewN | apply below_drew1 | refine below_set ?_ GE147.out) | exact HB.out)) hb); clear HO139; clear HO143; clear HO152; clear BK147; clear HB; have HO139 := n0_; have HO143 := n1_; have HO152 := n2_; have HO156 := n3_; have BK147 := n4_; have HB := n5_; clear n0_ n1_ n2_ n3_ n4_ n5_; (try clear hb); (try clear hb2); (try clear hk); (try clear hi); (try clear ho0)))
            have n0_ := Aside0.mk (Kd.R_drew HO139.out)
            have n1_ := Aside0.mk (Kd.R_drew HO143.out)
            have n2_ := Aside0.mk (Kd.R_drew HO152.out)
            have n3_ := Aside0.mk (Kd.R_drew HO156.out)
            have n4_ := Aside0.mk (blk_drew BK147.out)
            have n5_ := Aside0.mk (below_drew1 HB.out)
            clear HO139
            clear HO143
            clear HO152
            clear HO156
            clear BK147
            clear HB
            have HO139 := n0_
            have HO143 := n1_
            have HO152 := n2_
            have HO156 := n3_
            have BK147 := n4_
            have HB := n5_
            clear n0_ n1_ n2_ n3_ n4_ n5_
            have p173 : 0 ≤ (0 : Int) := (by omega)
            have q173 : 0 < (t140.length : Int) := of_decide_eq_true (by first | (with_reducible assumption) | assumption)
            (try (obtain ⟨Aoz_, coz_, eoz_⟩ := Kd.R_slice HO143.out; subst eoz_))
            obtain ⟨ad173, e173, hx173_0, hx173_1⟩ := at_T23 (Kd.R_reads' HO143.out).2.2 0 p173 q173
            cases e173
            have qi173 : (0 < t140.length) = True := eq_true (by omega)
            (try rw [show ((0 : Int)).toNat = 0 from rfl] at hx173_0)
            (try rw [show 0 * 2 = 0 from rfl] at hx173_0)
            (try rw [Addr.add_zero'] at hx173_0)
            (try rw [show ((0 : Int)).toNat = 0 from rfl] at hx173_1)
            (try rw [show 0 * 2 = 0 from rfl] at hx173_1)
            (try rw [Addr.add_zero'] at hx173_1)
            replace p173 := eq_true p173
            replace q173 := eq_true q173
            have p174 : 0 ≤ (1 : Int) := (by omega)
            have q174 : 1 < (t140.length : Int) := of_decide_eq_true (by first | (with_reducible assumption) | assumption)
            (try (obtain ⟨Aoz_, coz_, eoz_⟩ := Kd.R_slice HO143.out; subst eoz_))
            obtain ⟨ad174, e174, hx174_0, hx174_1⟩ := at_T23 (Kd.R_reads' HO143.out).2.2 1 p174 q174
            obtain rfl : ad173 = ad174 := (by injection e174)
            (try simp only [show (1 : Int).toNat = 1 from rfl, Nat.reduceMul, Nat.reduceEqDiff, Go.Addr.add, ↓reduceIte] at hx174_0)
            (try simp only [show (1 : Int).toNat = 1 from rfl, Nat.reduceMul, Nat.reduceEqDiff, Go.Addr.add, ↓reduceIte] at hx174_1)
            have qi174 : (1 < t140.length) = True := eq_true (by omega)
            (try rw [show ((1 : Int)).toNat = 1 from rfl] at hx174_0)
            (try rw [show 1 * 2 = 2 from rfl] at hx174_0)
            (try rw [show ((1 : Int)).toNat = 1 from rfl] at hx174_1)
            (try rw [show 1 * 2 = 2 from rfl] at hx174_1)
            replace p174 := eq_true p174
            replace q174 := eq_true q174
            refine start_ (n := 61) (S := fun w' => w'.cell? ⟨gb147, 0, none⟩ = some (.int .i64 t144) ∧ w'.cell? ⟨gb147, 1, none⟩ = some (.int .i64 t145) ∧ w'.cell? ad173 = some (.int .i64 ((rd_T23 t140 0).f0)) ∧ w'.cell? ⟨ad173.block, ad173.off + 1, none⟩ = some (.int .i64 ((rd_T23 t140 0).f1)) ∧ w'.cell? ⟨ad173.block, ad173.off + 2, none⟩ = some (.int .i64 ((rd_T23 t140 1).f0)) ∧ w'.cell? ⟨ad173.block, ad173.off + 2 + 1, none⟩ = some (.int .i64 ((rd_T23 t140 1).f1))) (ds := []) #[false, false, false, false, false, false, false, false, false, false, false, false, false, false, false, false, false, false, false, false, false, false, false, false, false, false, false, false, false, false, false, false, false, false, false, false, false, false, false, false, false, false, false, false, false, false, false, false, false, false, false, false, false, false, false, false, false, false, false, false, false] (by kernel_rfl) rfl rfl ⟨(blk_cell BK147.out 0).trans rfl, (blk_cell BK147.out 1).trans rfl, hx173_0, hx173_1, hx174_0, hx174_1⟩ (fun hHeld => ?_); refine with_tabW garrisonlaw06_liveP.tab4 garrisonlaw06_liveP.bits4 (fun HT_ HW_ => ?_)
            generalize w49.drew = w50 at HO139 HO143 HO152 HO156 BK147 HB hx173_0 hx173_1 hx174_0 hx174_1 hHeld ⊢
            refine pure_ (i := 0) (N := some 25) (v := ?_) (a' := ?_) #[true, false, false, false, false, false, false, false, false, false, false, false, false, false, false, false, false, false, false, false, false, false, false, false, false, false, false, false, false, false, false, false, false, false, false, false, false, false, false, false, false, false, false, false, false, false, false, false, false, false, false, false, false, false, false, false, false, false, false, false, false] rfl rfl (any_of HT_.out (by kernel_rfl)) (fun _ _ _ h => h) (Or.inl ⟨by rfl, ?_⟩) ?_ ?_
            rotate_left
            ·intro w'
             go_simp
             with_reducible rfl
            rotate_left
            ·simp only [Act.put, List.setIfInBounds_toArray, List.set_cons_zero, List.set_cons_succ, i64_w, i32_w]
             rfl
            refine pure_ (i := 2) (N := some 27) (v := ?_) (a' := ?_) #[true, false, true, false, false, false, false, false, false, false, false, false, false, false, false, false, false, false, false, false, false, false, false, false, false, false, false, false, false, false, false, false, false, false, false, false, false, false, false, false, false, false, false, false, false, false, false, false, false, false, false, false, false, false, false, false, false, false, false, false, false] rfl rfl (any_of HT_.out (by kernel_rfl)) (fun _ _ _ h => h) (Or.inl ⟨by rfl, ?_⟩) ?_ ?_
            rotate_left
            ·intro w'
             go_simp
             with_reducible rfl
            rotate_left
            ·simp only [Act.put, List.setIfInBounds_toArray, List.set_cons_zero, List.set_cons_succ, i64_w, i32_w]
             rfl
            refine one_ (i := 1) (N := some 26) #[true, true, true, false, false, false, false, false, false, false, false, false, false, false, false, false, false, false, false, false, false, false, false, false, false, false, false, false, false, false, false, false, false, false, false, false, false, false, false, false, false, false, false, false, false, false, false, false, false, false, false, false, false, false, false, false, false, false, false, false, false] rfl rfl (one_of HT_.out (by kernel_rfl)) (by decide) (fun K hK => ?_)
            refine goes_ Try.func12 (by kernel_rfl) rfl #[.int .i64 t141] (by rfl) rfl rfl (by (try simp only [List.map_toArray, List.map_cons, List.map_nil]); first | done | rfl | (simp only [List.length_drop, List.length_take]; rfl)) ?_
            with_reducible refine (garrisonlaw06_num.calls t141 t157 _ A8.out).mono ?_
            rintro e w' ⟨rfl, ⟨nd, rfl⟩⟩
            refine ⟨_, rfl, ?_⟩
            refine hK.out _ _ ⟨(blk_cell BK147.out 0).trans rfl, (blk_cell BK147.out 1).trans rfl, hHeld.2.2.1, hHeld.2.2.2.1, hHeld.2.2.2.2.1, hHeld.2.2.2.2.2⟩ (fun hHeld => ?_)
            clear hK K
            refine norm_ (a' := ?_) ?_ ?_
            rotate_left
            ·show Act.put _ (some 26) _ = _
             simp only [Act.put, List.setIfInBounds_toArray, List.set_cons_zero, List.set_cons_succ, i64_w, i32_w]
             rfl
            refine one_ (i := 3) (N := some 28) #[true, true, true, true, false, false, false, false, false, false, false, false, false, false, false, false, false, false, false, false, false, false, false, false, false, false, false, false, false, false, false, false, false, false, false, false, false, false, false, false, false, false, false, false, false, false, false, false, false, false, false, false, false, false, false, false, false, false, false, false, false] rfl rfl (one_of HT_.out (by kernel_rfl)) (by decide) (fun K hK => ?_)
            refine goes_ Try.func12 (by kernel_rfl) rfl #[.int .i64 t146] (by rfl) rfl rfl (by (try simp only [List.map_toArray, List.map_cons, List.map_nil]); first | done | rfl | (simp only [List.length_drop, List.length_take]; rfl)) ?_
            with_reducible refine (garrisonlaw06_num.calls t146 t158 _ A9.out).mono ?_
            rintro e w' ⟨rfl, ⟨nd, rfl⟩⟩
            refine ⟨_, rfl, ?_⟩
            refine hK.out _ _ ⟨(blk_cell BK147.out 0).trans rfl, (blk_cell BK147.out 1).trans rfl, hHeld.2.2.1, hHeld.2.2.2.1, hHeld.2.2.2.2.1, hHeld.2.2.2.2.2⟩ (fun hHeld => ?_)
            clear hK K
            refine norm_ (a' := ?_) ?_ ?_
            rotate_left
            ·show Act.put _ (some 28) _ = _
             simp only [Act.put, List.setIfInBounds_toArray, List.set_cons_zero, List.set_cons_succ, i64_w, i32_w]
             rfl
            refine pure_ (i := 4) (N := some 29) (v := ?_) (a' := ?_) #[true, true, true, true, true, false, false, false, false, false, false, false, false, false, false, false, false, false, false, false, false, false, false, false, false, false, false, false, false, false, false, false, false, false, false, false, false, false, false, false, false, false, false, false, false, false, false, false, false, false, false, false, false, false, false, false, false, false, false, false, false] rfl rfl (any_of HT_.out (by kernel_rfl)) (fun _ _ _ h => h) (Or.inl ⟨by rfl, ?_⟩) ?_ ?_
            rotate_left
            ·intro w'
             go_simp
             with_reducible rfl
            rotate_left
            ·simp only [Act.put, List.setIfInBounds_toArray, List.set_cons_zero, List.set_cons_succ, i64_w, i32_w]
             rfl
            refine pure_ (i := 5) (N := some 30) (v := ?_) (a' := ?_) #[true, true, true, true, true, true, false, false, false, false, false, false, false, false, false, false, false, false, false, false, false, false, false, false, false, false, false, false, false, false, false, false, false, false, false, false, false, false, false, false, false, false, false, false, false, false, false, false, false, false, false, false, false, false, false, false, false, false, false, false, false] rfl rfl (any_of HT_.out (by kernel_rfl)) (fun _ _ _ h => h) (Or.inl ⟨by rfl, ?_⟩) ?_ ?_
            rotate_left
            ·intro w'
             go_simp
             with_reducible rfl
            rotate_left
            ·simp only [Act.put, List.setIfInBounds_toArray, List.set_cons_zero, List.set_cons_succ, i64_w, i32_w]
             rfl
            refine pure_ (i := 6) (N := some 31) (v := ?_) (a' := ?_) #[true, true, true, true, true, true, true, false, false, false, false, false, false, false, false, false, false, false, false, false, false, false, false, false, false, false, false, false, false, false, false, false, false, false, false, false, false, false, false, false, false, false, false, false, false, false, false, false, false, false, false, false, false, false, false, false, false, false, false, false, false] rfl rfl (any_of HT_.out (by kernel_rfl)) (fun _ _ _ h => h) (Or.inl ⟨by rfl, ?_⟩) ?_ ?_
            rotate_left
            ·intro w'
             go_simp
             with_reducible rfl
            rotate_left
            ·simp only [Act.put, List.setIfInBounds_toArray, List.set_cons_zero, List.set_cons_succ, i64_w, i32_w]
             rfl
            refine pure_ (i := 7) (N := some 32) (v := ?_) (a' := ?_) #[true, true, true, true, true, true, true, true, false, false, false, false, false, false, false, false, false, false, false, false, false, false, false, false, false, false, false, false, false, false, false, false, false, false, false, false, false, false, false, false, false, false, false, false, false, false, false, false, false, false, false, false, false, false, false, false, false, false, false, false, false] rfl rfl (any_of HT_.out (by kernel_rfl)) (fun _ _ _ h => h) (Or.inl ⟨by rfl, ?_⟩) ?_ ?_
            rotate_left
            ·intro w'
             go_simp
             with_reducible rfl
            rotate_left
            ·simp only [Act.put, List.setIfInBounds_toArray, List.set_cons_zero, List.set_cons_succ, i64_w, i32_w]
             rfl
            refine one_ (i := 8) (N := some 33) #[true, true, true, true, true, true, true, true, true, false, false, false, false, false, false, false, false, false, false, false, false, false, false, false, false, false, false, false, false, false, false, false, false, false, false, false, false, false, false, false, false, false, false, false, false, false, false, false, false, false, false, false, false, false, false, false, false, false, false, false, false] rfl rfl (one_of HT_.out (by kernel_rfl)) (by decide) (fun K hK => ?_)
            refine goes_ Try.func29 (by kernel_rfl) rfl #[.int .i64 1, .int .i64 (-1)] (by rfl) rfl rfl (by (try simp only [List.map_toArray, List.map_cons, List.map_nil]); first | done | rfl | (simp only [List.length_drop, List.length_take]; rfl)) ?_
            with_reducible refine (garrisonlaw06_key.calls 1 (-1) t159 t160 _ A11.out).mono ?_
            rintro e w51 ⟨rfl, hb⟩
            have HS2_ := (hb.cell (World.block_lt_of_cell? _ _ (hHeld.2.2.1))).trans (hHeld.2.2.1)
            have HS3_ := (hb.cell (World.block_lt_of_cell? _ _ (hHeld.2.2.2.1))).trans (hHeld.2.2.2.1)
            have HS4_ := (hb.cell (World.block_lt_of_cell? _ _ (hHeld.2.2.2.2.1))).trans (hHeld.2.2.2.2.1)
            have HS5_ := (hb.cell (World.block_lt_of_cell? _ _ (hHeld.2.2.2.2.2))).trans (hHeld.2.2.2.2.2)
            refine ⟨_, rfl, ?_⟩
            have n0_ := Aside0.mk (Kd.R_below (by (with_reducible repeat (first | apply Kd.R_alloc | apply Kd.R_drewN | apply Kd.R_drew)); exact HO139.out) hb)
            have n1_ := Aside0.mk (Kd.R_below (by (with_reducible repeat (first | apply Kd.R_alloc | apply Kd.R_drewN | apply Kd.R_drew)); exact HO143.out) hb)
            have n2_ := Aside0.mk (Kd.R_below (by (with_reducible repeat (first | apply Kd.R_alloc | apply Kd.R_drewN | apply Kd.R_drew)); exact HO152.out) hb)
            have n3_ := Aside0.mk (Kd.R_below (by (with_reducible repeat (first | apply Kd.R_alloc | apply Kd.R_drewN | apply Kd.R_drew)); exact HO156.out) hb)
            have n4_ := Aside0.mk (blk_below (g := gb147) (o := .cells #[.int .i64 t144, .int .i64 t145] 23 (0, 0)) (by (with_reducible repeat (first | refine blk_drewN ?_ _ | refine blk_drew ?_ | refine blk_alloc ?_ _)); exact BK147.out) hb)
            have n5_ := Aside0.mk (below_step (by repeat (first | (with_reducible first | exact HB.out | apply below_alloc | apply pw_below_drewN | apply below_drew1 | refine below_set ?_ GE147.out) | exact HB.out)) hb)
            clear HO139
            clear HO143
            clear HO152
            clear HO156
            clear BK147
            clear HB
            have HO139 := n0_
            have HO143 := n1_
            have HO152 := n2_
            have HO156 := n3_
            have BK147 := n4_
            have HB := n5_
            clear n0_ n1_ n2_ n3_ n4_ n5_
            (try clear hb)
            (try clear hb2)
            (try clear hk)
            (try clear hi)
            refine hK.out _ _ ⟨(blk_cell BK147.out 0).trans rfl, (blk_cell BK147.out 1).trans rfl, HS2_, HS3_, HS4_, HS5_⟩ (fun hHeld => ?_)
            clear hK K
            refine norm_ (a' := ?_) ?_ ?_
            rotate_left
            ·show Act.put _ (some 33) _ = _
             simp only [Act.put, List.setIfInBounds_toArray, List.set_cons_zero, List.set_cons_succ, i64_w, i32_w]
             rfl
            refine one_ (i := 9) (N := some 34) #[true, true, true, true, true, true, true, true, true, true, false, false, false, false, false, false, false, false, false, false, false, false, false, false, false, false, false, false, false, false, false, false, false, false, false, false, false, false, false, false, false, false, false, false, false, false, false, false, false, false, false, false, false, false, false, false, false, false, false, false, false] rfl rfl (one_of HT_.out (by kernel_rfl)) (by decide) (fun K hK => ?_)
            refine goes_ Try.func29 (by kernel_rfl) rfl #[.int .i64 2, .int .i64 0] (by rfl) rfl rfl (by (try simp only [List.map_toArray, List.map_cons, List.map_nil]); first | done | rfl | (simp only [List.length_drop, List.length_take]; rfl)) ?_
            with_reducible refine (garrisonlaw06_key.calls 2 0 t161 t162 _ A12.out).mono ?_
            rintro e w52 ⟨rfl, hb⟩
            have HS2_ := (hb.cell (World.block_lt_of_cell? _ _ (hHeld.2.2.1))).trans (hHeld.2.2.1)
            have HS3_ := (hb.cell (World.block_lt_of_cell? _ _ (hHeld.2.2.2.1))).trans (hHeld.2.2.2.1)
            have HS4_ := (hb.cell (World.block_lt_of_cell? _ _ (hHeld.2.2.2.2.1))).trans (hHeld.2.2.2.2.1)
            have HS5_ := (hb.cell (World.block_lt_of_cell? _ _ (hHeld.2.2.2.2.2))).trans (hHeld.2.2.2.2.2)
            refine ⟨_, rfl, ?_⟩
            have n0_ := Aside0.mk (Kd.R_below (by (with_reducible repeat (first | apply Kd.R_alloc | apply Kd.R_drewN | apply Kd.R_drew)); exact HO139.out) hb)
            have n1_ := Aside0.mk (Kd.R_below (by (with_reducible repeat (first | apply Kd.R_alloc | apply Kd.R_drewN | apply Kd.R_drew)); exact HO143.out) hb)
            have n2_ := Aside0.mk (Kd.R_below (by (with_reducible repeat (first | apply Kd.R_alloc | apply Kd.R_drewN | apply Kd.R_drew)); exact HO152.out) hb)
            have n3_ := Aside0.mk (Kd.R_below (by (with_reducible repeat (first | apply Kd.R_alloc | apply Kd.R_drewN | apply Kd.R_drew)); exact HO156.out) hb)
            have n4_ := Aside0.mk (blk_below (g := gb147) (o := .cells #[.int .i64 t144, .int .i64 t145] 23 (0, 0)) (by (with_reducible repeat (first | refine blk_drewN ?_ _ | refine blk_drew ?_ | refine blk_alloc ?_ _)); exact BK147.out) hb)
            have n5_ := Aside0.mk (below_step (by repeat (first | (with_reducible first | exact HB.out | apply below_alloc | apply pw_below_drewN | apply below_drew1 | refine below_set ?_ GE147.out) | exact HB.out)) hb)
            clear HO139
            clear HO143
            clear HO152
            clear HO156
            clear BK147
            clear HB
            have HO139 := n0_
            have HO143 := n1_
            have HO152 := n2_
            have HO156 := n3_
            have BK147 := n4_
            have HB := n5_
            clear n0_ n1_ n2_ n3_ n4_ n5_
            (try clear hb)
            (try clear hb2)
            (try clear hk)
            (try clear hi)
            refine hK.out _ _ ⟨(blk_cell BK147.out 0).trans rfl, (blk_cell BK147.out 1).trans rfl, HS2_, HS3_, HS4_, HS5_⟩ (fun hHeld => ?_)
            clear hK K
            refine norm_ (a' := ?_) ?_ ?_
            rotate_left
            ·show Act.put _ (some 34) _ = _
             simp only [Act.put, List.setIfInBounds_toArray, List.set_cons_zero, List.set_cons_succ, i64_w, i32_w]
             rfl
            refine one_ (i := 10) (N := some 35) #[true, true, true, true, true, true, true, true, true, true, true, false, false, false, false, false, false, false, false, false, false, false, false, false, false, false, false, false, false, false, false, false, false, false, false, false, false, false, false, false, false, false, false, false, false, false, false, false, false, false, false, false, false, false, false, false, false, false, false, false, false] rfl rfl (one_of HT_.out (by kernel_rfl)) (by decide) (fun K hK => ?_)
            refine Kd.R_lit_step k23 _ 23 ?hg (N := 35) ?hd (xs := ([(⟨t159, t160⟩ : S23), (⟨t161, t162⟩ : S23)] : List (S23))) (inner := [.int .i64 t159, .int .i64 t160, .int .i64 t161, .int .i64 t162]) (ok := fun _ => True) (okp := fun _ => True) ?hr ?hp (fun _ hk => hk) trivial (Below.refl _ _) (Nat.le_refl _) (by simp) ?_; (case hd => rfl); (case hg => rfl); (case hr => first | (go_simp; done) | (go_simp; rfl)); (case hp => exact (Reps.c2 (show Kd.M k23 _ _ _ (⟨t159, t160⟩ : S23) [.int .i64 t159, .int .i64 t160] from (k23_mkM _ _ _ (⟨t159, t160⟩ : S23) )) (Reps.c2 (show Kd.M k23 _ _ _ (⟨t161, t162⟩ : S23) [.int .i64 t161, .int .i64 t162] from (k23_mkM _ _ _ (⟨t161, t162⟩ : S23) )) (Reps.none _ _))))
            intro v164 w53 ho54 hb hg_ hnew_
            have HS2_ := (hb.cell (World.block_lt_of_cell? _ _ (hHeld.2.2.1))).trans (hHeld.2.2.1)
            have HS3_ := (hb.cell (World.block_lt_of_cell? _ _ (hHeld.2.2.2.1))).trans (hHeld.2.2.2.1)
            have HS4_ := (hb.cell (World.block_lt_of_cell? _ _ (hHeld.2.2.2.2.1))).trans (hHeld.2.2.2.2.1)
            have HS5_ := (hb.cell (World.block_lt_of_cell? _ _ (hHeld.2.2.2.2.2))).trans (hHeld.2.2.2.2.2)
            clear hg_ hnew_
            (first | rw [← Ny163.out] at ho54 | (simp only [Int.reduceToNat] at ho54; rw [← Ny163.out] at ho54))
            have n0_ := Aside0.mk (Kd.R_elder' (by (with_reducible repeat (first | apply Kd.R_alloc | apply Kd.R_drewN | apply Kd.R_drew)); exact HO139.out) (Kd.R_base ho54) hb)
            have n1_ := Aside0.mk (Kd.R_elder' (by (with_reducible repeat (first | apply Kd.R_alloc | apply Kd.R_drewN | apply Kd.R_drew)); exact HO143.out) (Kd.R_base ho54) hb)
            have n2_ := Aside0.mk (Kd.R_elder' (by (with_reducible repeat (first | apply Kd.R_alloc | apply Kd.R_drewN | apply Kd.R_drew)); exact HO152.out) (Kd.R_base ho54) hb)
            have n3_ := Aside0.mk (Kd.R_elder' (by (with_reducible repeat (first | apply Kd.R_alloc | apply Kd.R_drewN | apply Kd.R_drew)); exact HO156.out) (Kd.R_base ho54) hb)
            have n4_ := Aside0.mk (Kd.R_lower (Kd.R_newB (Kd.R_new' (Kd.R_new' (Kd.R_new' (Kd.R_new' ho54 (Kd.R_lt (by (with_reducible repeat (first | apply Kd.R_alloc | apply Kd.R_drewN | apply Kd.R_drew)); exact HO139.out))) (Kd.R_lt (by (with_reducible repeat (first | apply Kd.R_alloc | apply Kd.R_drewN | apply Kd.R_drew)); exact HO143.out))) (Kd.R_lt (by (with_reducible repeat (first | apply Kd.R_alloc | apply Kd.R_drewN | apply Kd.R_drew)); exact HO152.out))) (Kd.R_lt (by (with_reducible repeat (first | apply Kd.R_alloc | apply Kd.R_drewN | apply Kd.R_drew)); exact HO156.out))) (g := gb147) (o := .cells #[.int .i64 t144, .int .i64 t145] 23 (0, 0)) (by (with_reducible repeat (first | refine blk_drewN ?_ _ | refine blk_drew ?_ | refine blk_alloc ?_ _)); exact BK147.out)) (below_size (by repeat (first | (with_reducible first | exact HB.out | apply below_alloc | apply pw_below_drewN | apply below_drew1 | refine below_set ?_ GE147.out) | exact HB.out))))
            have n5_ := Aside0.mk (blk_below (g := gb147) (o := .cells #[.int .i64 t144, .int .i64 t145] 23 (0, 0)) (by (with_reducible repeat (first | refine blk_drewN ?_ _ | refine blk_drew ?_ | refine blk_alloc ?_ _)); exact BK147.out) hb)
            have n6_ := Aside0.mk (below_step (by repeat (first | (with_reducible first | exact HB.out | apply below_alloc | apply pw_below_drewN | apply below_drew1 | refine below_set ?_ GE147.out) | exact HB.out)) hb)
            clear HO139
            clear HO143
            clear HO152
            clear HO156
            clear BK147
            clear HB
            have HO139 := n0_
            have HO143 := n1_
            have HO152 := n2_
            have HO156 := n3_
            have HO165 := n4_
            have BK147 := n5_
            have HB := n6_
            clear n0_ n1_ n2_ n3_ n4_ n5_ n6_
            clear hb ho54
            obtain ⟨Ao55, co55, eo55⟩ := Kd.R_slice HO143.out
            (first | subst eo55 | (injection eo55 with f1_ f2_ f3_; have f4_ := f1_.symm; have f5_ := f3_.symm; clear f1_ f2_ f3_; subst f4_; subst f5_))
            obtain ⟨Ao56, co56, eo56⟩ := Kd.R_slice HO165.out
            (first | subst eo56 | (injection eo56 with f1_ f2_ f3_; have f4_ := f1_.symm; have f5_ := f3_.symm; clear f1_ f2_ f3_; subst f4_; subst f5_))
            refine hK.out _ _ ⟨(blk_cell BK147.out 0).trans rfl, (blk_cell BK147.out 1).trans rfl, HS2_, HS3_, HS4_, HS5_⟩ (fun hHeld => ?_)
            clear hK K
            refine norm_ (a' := ?_) ?_ ?_
            rotate_left
            ·show Act.put _ (some 35) _ = _
             simp only [Act.put, List.setIfInBounds_toArray, List.set_cons_zero, List.set_cons_succ, i64_w, i32_w]
             rfl
            refine one_ (i := 11) (N := some 36) #[true, true, true, true, true, true, true, true, true, true, true, true, false, false, false, false, false, false, false, false, false, false, false, false, false, false, false, false, false, false, false, false, false, false, false, false, false, false, false, false, false, false, false, false, false, false, false, false, false, false, false, false, false, false, false, false, false, false, false, false, false] rfl rfl (one_of HT_.out (by kernel_rfl)) (by decide) (fun K hK => ?_)
            refine goes_ Try.func22 (by kernel_rfl) rfl #[.slice (some ad173) t140.length co55, .slice Ao56 y163.length co56] (by rfl) rfl rfl (by (try simp only [List.map_toArray, List.map_cons, List.map_nil]); first | done | rfl | (simp only [List.length_drop, List.length_take]; rfl)) ?_
            with_reducible refine (garrisonref06_Same.calls k _ _ t140 _ _ y163 true _ ?side1 ?side2 ?side3 ?side4 A13.out).mono ?_
            (case side1 => repeat (first | exact (Kd.R_reads' HO143.out).2.2 | (with_reducible refine Kd.C_alloc ?_ _) | (with_reducible refine Kd.C_drewN ?_ _) | (with_reducible refine Kd.C_drew ?_)))
            (case side2 => exact (Kd.R_reads' HO143.out).2.1)
            (case side3 => repeat (first | exact (Kd.R_reads' HO165.out).2.2 | (with_reducible refine Kd.C_alloc ?_ _) | (with_reducible refine Kd.C_drewN ?_ _) | (with_reducible refine Kd.C_drew ?_)))
            (case side4 => exact (Kd.R_reads' HO165.out).2.1)
            rintro e w' ⟨rfl, ⟨nd, rfl⟩⟩
            refine ⟨_, rfl, ?_⟩
            refine hK.out _ _ ⟨(blk_cell BK147.out 0).trans rfl, (blk_cell BK147.out 1).trans rfl, hHeld.2.2.1, hHeld.2.2.2.1, hHeld.2.2.2.2.1, hHeld.2.2.2.2.2⟩ (fun hHeld => ?_)
            clear hK K
            refine norm_ (a' := ?_) ?_ ?_
            rotate_left
            ·show Act.put _ (some 36) _ = _
             simp only [Act.put, List.setIfInBounds_toArray, List.set_cons_zero, List.set_cons_succ, i64_w, i32_w]
             rfl
            refine pure_ (i := 12) (N := some 37) (v := ?_) (a' := ?_) #[true, true, true, true, true, true, true, true, true, true, true, true, true, false, false, false, false, false, false, false, false, false, false, false, false, false, false, false, false, false, false, false, false, false, false, false, false, false, false, false, false, false, false, false, false, false, false, false, false, false, false, false, false, false, false, false, false, false, false, false, false] rfl rfl (any_of HT_.out (by kernel_rfl)) (fun _ _ _ h => h) (Or.inl ⟨by rfl, ?_⟩) ?_ ?_
            rotate_left
            ·intro w'
             go_simp
             with_reducible rfl
            rotate_left
            ·simp only [Act.put, List.setIfInBounds_toArray, List.set_cons_zero, List.set_cons_succ, i64_w, i32_w]
             rfl
            refine pure_ (i := 13) (N := some 38) (v := ?_) (a' := ?_) #[true, true, true, true, true, true, true, true, true, true, true, true, true, true, false, false, false, false, false, false, false, false, false, false, false, false, false, false, false, false, false, false, false, false, false, false, false, false, false, false, false, false, false, false, false, false, false, false, false, false, false, false, false, false, false, false, false, false, false, false, false] rfl rfl (any_of HT_.out (by kernel_rfl)) (fun _ _ _ h => h) (Or.inl ⟨by rfl, ?_⟩) ?_ ?_
            rotate_left
            ·intro w'
             go_simp
             with_reducible rfl
            rotate_left
            ·simp only [Act.put, List.setIfInBounds_toArray, List.set_cons_zero, List.set_cons_succ, i64_w, i32_w]
             rfl
            refine take_ (i := 14) (N := some 39) (v := ?_) (a' := ?_) #[true, true, true, true, true, true, true, true, true, true, true, true, true, true, true, false, false, false, false, false, false, false, false, false, false, false, false, false, false, false, false, false, false, false, false, false, false, false, false, false, false, false, false, false, false, false, false, false, false, false, false, false, false, false, false, false, false, false, false, false, false] rfl rfl (take_ofW HT_.out HW_.out (by kernel_rfl)) (fun _ _ _ h => h) (Or.inl ⟨by rfl, ?_⟩) hHeld ?_ ?_
            rotate_left
            ·rintro w' ⟨s0, s1, s2, s3, s4, s5⟩
             go_simp
             with_reducible rfl
            rotate_left
            ·simp only [Act.put, List.setIfInBounds_toArray, List.set_cons_zero, List.set_cons_succ, i64_w, i32_w]
             rfl
            refine one_ (i := 15) (N := some 40) #[true, true, true, true, true, true, true, true, true, true, true, true, true, true, true, true, false, false, false, false, false, false, false, false, false, false, false, false, false, false, false, false, false, false, false, false, false, false, false, false, false, false, false, false, false, false, false, false, false, false, false, false, false, false, false, false, false, false, false, false, false] rfl rfl (one_of HT_.out (by kernel_rfl)) (by decide) (fun K hK => ?_)
            refine goes_ Try.func29 (by kernel_rfl) rfl #[.int .i64 1, .int .i64 (-1)] (by rfl) rfl rfl (by (try simp only [List.map_toArray, List.map_cons, List.map_nil]); first | done | rfl | (simp only [List.length_drop, List.length_take]; rfl)) ?_
            with_reducible refine (garrisonlaw06_key.calls 1 (-1) t167 t168 _ A15.out).mono ?_
            rintro e w57 ⟨rfl, hb⟩
            have HS2_ := (hb.cell (World.block_lt_of_cell? _ _ (hHeld.2.2.1))).trans (hHeld.2.2.1)
            have HS3_ := (hb.cell (World.block_lt_of_cell? _ _ (hHeld.2.2.2.1))).trans (hHeld.2.2.2.1)
            have HS4_ := (hb.cell (World.block_lt_of_cell? _ _ (hHeld.2.2.2.2.1))).trans (hHeld.2.2.2.2.1)
            have HS5_ := (hb.cell (World.block_lt_of_cell? _ _ (hHeld.2.2.2.2.2))).trans (hHeld.2.2.2.2.2)
            refine ⟨_, rfl, ?_⟩
            have n0_ := Aside0.mk (Kd.R_below (by (with_reducible repeat (first | apply Kd.R_alloc | apply Kd.R_drewN | apply Kd.R_drew)); exact HO139.out) hb)
            have n1_ := Aside0.mk (Kd.R_below (by (with_reducible repeat (first | apply Kd.R_alloc | apply Kd.R_drewN | apply Kd.R_drew)); exact HO143.out) hb)
            have n2_ := Aside0.mk (Kd.R_below (by (with_reducible repeat (first | apply Kd.R_alloc | apply Kd.R_drewN | apply Kd.R_drew)); exact HO152.out) hb)
            have n3_ := Aside0.mk (Kd.R_below (by (with_reducible repeat (first | apply Kd.R_alloc | apply Kd.R_drewN | apply Kd.R_drew)); exact HO156.out) hb)
            have n4_ := Aside0.mk (Kd.R_below (by (with_reducible repeat (first | apply Kd.R_alloc | apply Kd.R_drewN | apply Kd.R_drew)); exact HO165.out) hb)
            have n5_ := Aside0.mk (blk_below (g := gb147) (o := .cells #[.int .i64 t144, .int .i64 t145] 23 (0, 0)) (by (with_reducible repeat (first | refine blk_drewN ?_ _ | refine blk_drew ?_ | refine blk_alloc ?_ _)); exact BK147.out) hb)
            have n6_ := Aside0.mk (below_step (by repeat (first | (with_reducible first | exact HB.out | apply below_alloc | apply pw_below_drewN | apply below_drew1 | refine below_set ?_ GE147.out) | exact HB.out)) hb)
            clear HO139
            clear HO143
            clear HO152
            clear HO156
            clear HO165
            clear BK147
            clear HB
            have HO139 := n0_
            have HO143 := n1_
            have HO152 := n2_
            have HO156 := n3_
            have HO165 := n4_
            have BK147 := n5_
            have HB := n6_
            clear n0_ n1_ n2_ n3_ n4_ n5_ n6_
            (try clear hb)
            (try clear hb2)
            (try clear hk)
            (try clear hi)
            refine hK.out _ _ ⟨(blk_cell BK147.out 0).trans rfl, (blk_cell BK147.out 1).trans rfl, HS2_, HS3_, HS4_, HS5_⟩ (fun hHeld => ?_)
            clear hK K
            refine norm_ (a' := ?_) ?_ ?_
            rotate_left
            ·show Act.put _ (some 40) _ = _
             simp only [Act.put, List.setIfInBounds_toArray, List.set_cons_zero, List.set_cons_succ, i64_w, i32_w]
             rfl
            refine pure_ (i := 16) (N := some 41) (v := ?_) (a' := ?_) #[true, true, true, true, true, true, true, true, true, true, true, true, true, true, true, true, true, false, false, false, false, false, false, false, false, false, false, false, false, false, false, false, false, false, false, false, false, false, false, false, false, false, false, false, false, false, false, false, false, false, false, false, false, false, false, false, false, false, false, false, false] rfl rfl (any_of HT_.out (by kernel_rfl)) (fun _ _ _ h => h) (Or.inl ⟨by rfl, ?_⟩) ?_ ?_
            rotate_left
            ·intro w'
             go_simp
             with_reducible rfl
            rotate_left
            ·simp only [Act.put, List.setIfInBounds_toArray, List.set_cons_zero, List.set_cons_succ, i64_w, i32_w]
             rfl
            refine pure_ (i := 17) (N := some 42) (v := ?_) (a' := ?_) #[true, true, true, true, true, true, true, true, true, true, true, true, true, true, true, true, true, true, false, false, false, false, false, false, false, false, false, false, false, false, false, false, false, false, false, false, false, false, false, false, false, false, false, false, false, false, false, false, false, false, false, false, false, false, false, false, false, false, false, false, false] rfl rfl (any_of HT_.out (by kernel_rfl)) (fun _ _ _ h => h) (Or.inl ⟨by rfl, ?_⟩) ?_ ?_
            rotate_left
            ·intro w'
             go_simp
             with_reducible rfl
            rotate_left
            ·simp only [Act.put, List.setIfInBounds_toArray, List.set_cons_zero, List.set_cons_succ, i64_w, i32_w]
             rfl
            refine pure_ (i := 18) (N := some 43) (v := ?_) (a' := ?_) #[true, true, true, true, true, true, true, true, true, true, true, true, true, true, true, true, true, true, true, false, false, false, false, false, false, false, false, false, false, false, false, false, false, false, false, false, false, false, false, false, false, false, false, false, false, false, false, false, false, false, false, false, false, false, false, false, false, false, false, false, false] rfl rfl (any_of HT_.out (by kernel_rfl)) (fun _ _ _ h => h) (Or.inl ⟨by rfl, ?_⟩) ?_ ?_
            rotate_left
            ·intro w'
             go_simp
             with_reducible rfl
            rotate_left
            ·simp only [Act.put, List.setIfInBounds_toArray, List.set_cons_zero, List.set_cons_succ, i64_w, i32_w]
             rfl
            refine take_ (i := 19) (N := some 44) (v := ?_) (a' := ?_) #[true, true, true, true, true, true, true, true, true, true, true, true, true, true, true, true, true, true, true, true, false, false, false, false, false, false, false, false, false, false, false, false, false, false, false, false, false, false, false, false, false, false, false, false, false, false, false, false, false, false, false, false, false, false, false, false, false, false, false, false, false] rfl rfl (take_ofW HT_.out HW_.out (by kernel_rfl)) (fun _ _ _ h => h) (Or.inl ⟨by rfl, ?_⟩) hHeld ?_ ?_
            rotate_left
            ·rintro w' ⟨s0, s1, s2, s3, s4, s5⟩
             go_simp
             with_reducible rfl
            rotate_left
            ·simp only [Act.put, List.setIfInBounds_toArray, List.set_cons_zero, List.set_cons_succ, i64_w, i32_w]
             rfl
            refine one_ (i := 20) (N := some 45) #[true, true, true, true, true, true, true, true, true, true, true, true, true, true, true, true, true, true, true, true, true, false, false, false, false, false, false, false, false, false, false, false, false, false, false, false, false, false, false, false, false, false, false, false, false, false, false, false, false, false, false, false, false, false, false, false, false, false, false, false, false] rfl rfl (one_of HT_.out (by kernel_rfl)) (by decide) (fun K hK => ?_)
            refine goes_ Try.func17 (by kernel_rfl) rfl #[.agg #[.int .i64 t144, .int .i64 t145]] (by rfl) rfl rfl (by (try simp only [List.map_toArray, List.map_cons, List.map_nil]); first | done | rfl | (simp only [List.length_drop, List.length_take]; rfl)) ?_
            with_reducible refine (order_Cell.calls t144 t145 t169 _ A17.out).mono ?_
            rintro e w58 ⟨rfl, hb⟩
            have HS2_ := (hb.cell (World.block_lt_of_cell? _ _ (hHeld.2.2.1))).trans (hHeld.2.2.1)
            have HS3_ := (hb.cell (World.block_lt_of_cell? _ _ (hHeld.2.2.2.1))).trans (hHeld.2.2.2.1)
            have HS4_ := (hb.cell (World.block_lt_of_cell? _ _ (hHeld.2.2.2.2.1))).trans (hHeld.2.2.2.2.1)
            have HS5_ := (hb.cell (World.block_lt_of_cell? _ _ (hHeld.2.2.2.2.2))).trans (hHeld.2.2.2.2.2)
            refine ⟨_, rfl, ?_⟩
            have n0_ := Aside0.mk (Kd.R_below (by (with_reducible repeat (first | apply Kd.R_alloc | apply Kd.R_drewN | apply Kd.R_drew)); exact HO139.out) hb)
            have n1_ := Aside0.mk (Kd.R_below (by (with_reducible repeat (first | apply Kd.R_alloc | apply Kd.R_drewN | apply Kd.R_drew)); exact HO143.out) hb)
            have n2_ := Aside0.mk (Kd.R_below (by (with_reducible repeat (first | apply Kd.R_alloc | apply Kd.R_drewN | apply Kd.R_drew)); exact HO152.out) hb)
            have n3_ := Aside0.mk (Kd.R_below (by (with_reducible repeat (first | apply Kd.R_alloc | apply Kd.R_drewN | apply Kd.R_drew)); exact HO156.out) hb)
            have n4_ := Aside0.mk (Kd.R_below (by (with_reducible repeat (first | apply Kd.R_alloc | apply Kd.R_drewN | apply Kd.R_drew)); exact HO165.out) hb)
            have n5_ := Aside0.mk (blk_below (g := gb147) (o := .cells #[.int .i64 t144, .int .i64 t145] 23 (0, 0)) (by (with_reducible repeat (first | refine blk_drewN ?_ _ | refine blk_drew ?_ | refine blk_alloc ?_ _)); exact BK147.out) hb)
            have n6_ := Aside0.mk (below_step (by repeat (first | (with_reducible first | exact HB.out | apply below_alloc | apply pw_below_drewN | apply below_drew1 | refine below_set ?_ GE147.out) | exact HB.out)) hb)
            clear HO139
            clear HO143
            clear HO152
            clear HO156
            clear HO165
            clear BK147
            clear HB
            have HO139 := n0_
            have HO143 := n1_
            have HO152 := n2_
            have HO156 := n3_
            have HO165 := n4_
            have BK147 := n5_
            have HB := n6_
            clear n0_ n1_ n2_ n3_ n4_ n5_ n6_
            (try clear hb)
            (try clear hb2)
            (try clear hk)
            (try clear hi)
            refine hK.out _ _ ⟨(blk_cell BK147.out 0).trans rfl, (blk_cell BK147.out 1).trans rfl, HS2_, HS3_, HS4_, HS5_⟩ (fun hHeld => ?_)
            clear hK K
            refine norm_ (a' := ?_) ?_ ?_
            rotate_left
            ·show Act.put _ (some 45) _ = _
             simp only [Act.put, List.setIfInBounds_toArray, List.set_cons_zero, List.set_cons_succ, i64_w, i32_w]
             rfl
            refine pure_ (i := 21) (N := some 46) (v := ?_) (a' := ?_) #[true, true, true, true, true, true, true, true, true, true, true, true, true, true, true, true, true, true, true, true, true, true, false, false, false, false, false, false, false, false, false, false, false, false, false, false, false, false, false, false, false, false, false, false, false, false, false, false, false, false, false, false, false, false, false, false, false, false, false, false, false] rfl rfl (any_of HT_.out (by kernel_rfl)) (fun _ _ _ h => h) (Or.inl ⟨by rfl, ?_⟩) ?_ ?_
            rotate_left
            ·intro w'
             go_simp
             with_reducible rfl
            rotate_left
            ·simp only [Act.put, List.setIfInBounds_toArray, List.set_cons_zero, List.set_cons_succ, i64_w, i32_w]
             rfl
            refine pure_ (i := 22) (N := some 47) (v := ?_) (a' := ?_) #[true, true, true, true, true, true, true, true, true, true, true, true, true, true, true, true, true, true, true, true, true, true, true, false, false, false, false, false, false, false, false, false, false, false, false, false, false, false, false, false, false, false, false, false, false, false, false, false, false, false, false, false, false, false, false, false, false, false, false, false, false] rfl rfl (any_of HT_.out (by kernel_rfl)) (fun _ _ _ h => h) (Or.inl ⟨by rfl, ?_⟩) ?_ ?_
            rotate_left
            ·intro w'
             go_simp
             with_reducible rfl
            rotate_left
            ·simp only [Act.put, List.setIfInBounds_toArray, List.set_cons_zero, List.set_cons_succ, i64_w, i32_w]
             rfl
            refine pure_ (i := 23) (N := some 48) (v := ?_) (a' := ?_) #[true, true, true, true, true, true, true, true, true, true, true, true, true, true, true, true, true, true, true, true, true, true, true, true, false, false, false, false, false, false, false, false, false, false, false, false, false, false, false, false, false, false, false, false, false, false, false, false, false, false, false, false, false, false, false, false, false, false, false, false, false] rfl rfl (any_of HT_.out (by kernel_rfl)) (fun _ _ _ h => h) (Or.inl ⟨by rfl, ?_⟩) ?_ ?_
            rotate_left
            ·intro w'
             go_simp
             with_reducible rfl
            rotate_left
            ·simp only [Act.put, List.setIfInBounds_toArray, List.set_cons_zero, List.set_cons_succ, i64_w, i32_w]
             rfl
            refine pure_ (i := 24) (N := some 49) (v := ?_) (a' := ?_) #[true, true, true, true, true, true, true, true, true, true, true, true, true, true, true, true, true, true, true, true, true, true, true, true, true, false, false, false, false, false, false, false, false, false, false, false, false, false, false, false, false, false, false, false, false, false, false, false, false, false, false, false, false, false, false, false, false, false, false, false, false] rfl rfl (any_of HT_.out (by kernel_rfl)) (fun _ _ _ h => h) (Or.inl ⟨by rfl, ?_⟩) ?_ ?_
            rotate_left
            ·intro w'
             go_simp
             with_reducible rfl
            rotate_left
            ·simp only [Act.put, List.setIfInBounds_toArray, List.set_cons_zero, List.set_cons_succ, i64_w, i32_w]
             rfl
            refine one_ (i := 25) (N := some 50) #[true, true, true, true, true, true, true, true, true, true, true, true, true, true, true, true, true, true, true, true, true, true, true, true, true, true, false, false, false, false, false, false, false, false, false, false, false, false, false, false, false, false, false, false, false, false, false, false, false, false, false, false, false, false, false, false, false, false, false, false, false] rfl rfl (one_of HT_.out (by kernel_rfl)) (by decide) (fun K hK => ?_)
            refine goes_ Try.func12 (by kernel_rfl) rfl #[.int .i64 t154] (by rfl) rfl rfl (by (try simp only [List.map_toArray, List.map_cons, List.map_nil]); first | done | rfl | (simp only [List.length_drop, List.length_take]; rfl)) ?_
            with_reducible refine (garrisonlaw06_num.calls t154 t170 _ A19.out).mono ?_
            rintro e w' ⟨rfl, ⟨nd, rfl⟩⟩
            refine ⟨_, rfl, ?_⟩
            refine hK.out _ _ ⟨(blk_cell BK147.out 0).trans rfl, (blk_cell BK147.out 1).trans rfl, hHeld.2.2.1, hHeld.2.2.2.1, hHeld.2.2.2.2.1, hHeld.2.2.2.2.2⟩ (fun hHeld => ?_)
            clear hK K
            refine norm_ (a' := ?_) ?_ ?_
            rotate_left
            ·show Act.put _ (some 50) _ = _
             simp only [Act.put, List.setIfInBounds_toArray, List.set_cons_zero, List.set_cons_succ, i64_w, i32_w]
             rfl
            refine pure_ (i := 26) (N := some 51) (v := ?_) (a' := ?_) #[true, true, true, true, true, true, true, true, true, true, true, true, true, true, true, true, true, true, true, true, true, true, true, true, true, true, true, false, false, false, false, false, false, false, false, false, false, false, false, false, false, false, false, false, false, false, false, false, false, false, false, false, false, false, false, false, false, false, false, false, false] rfl rfl (any_of HT_.out (by kernel_rfl)) (fun _ _ _ h => h) (Or.inl ⟨by rfl, ?_⟩) ?_ ?_
            rotate_left
            ·intro w'
             go_simp
             with_reducible rfl
            rotate_left
            ·simp only [Act.put, List.setIfInBounds_toArray, List.set_cons_zero, List.set_cons_succ, i64_w, i32_w]
             rfl
            refine pure_ (i := 27) (N := some 52) (v := ?_) (a' := ?_) #[true, true, true, true, true, true, true, true, true, true, true, true, true, true, true, true, true, true, true, true, true, true, true, true, true, true, true, true, false, false, false, false, false, false, false, false, false, false, false, false, false, false, false, false, false, false, false, false, false, false, false, false, false, false, false, false, false, false, false, false, false] rfl rfl (any_of HT_.out (by kernel_rfl)) (fun _ _ _ h => h) (Or.inl ⟨by rfl, ?_⟩) ?_ ?_
            rotate_left
            ·intro w'
             go_simp
             with_reducible rfl
            rotate_left
            ·simp only [Act.put, List.setIfInBounds_toArray, List.set_cons_zero, List.set_cons_succ, i64_w, i32_w]
             rfl
            refine pure_ (i := 28) (N := some 53) (v := ?_) (a' := ?_) #[true, true, true, true, true, true, true, true, true, true, true, true, true, true, true, true, true, true, true, true, true, true, true, true, true, true, true, true, true, false, false, false, false, false, false, false, false, false, false, false, false, false, false, false, false, false, false, false, false, false, false, false, false, false, false, false, false, false, false, false, false] rfl rfl (any_of HT_.out (by kernel_rfl)) (fun _ _ _ h => h) (Or.inl ⟨by rfl, ?_⟩) ?_ ?_
            rotate_left
            ·intro w'
             go_simp
             with_reducible rfl
            rotate_left
            ·simp only [Act.put, List.setIfInBounds_toArray, List.set_cons_zero, List.set_cons_succ, i64_w, i32_w]
             rfl
            refine pure_ (i := 29) (N := some 54) (v := ?_) (a' := ?_) #[true, true, true, true, true, true, true, true, true, true, true, true, true, true, true, true, true, true, true, true, true, true, true, true, true, true, true, true, true, true, false, false, false, false, false, false, false, false, false, false, false, false, false, false, false, false, false, false, false, false, false, false, false, false, false, false, false, false, false, false, false] rfl rfl (any_of HT_.out (by kernel_rfl)) (fun _ _ _ h => h) (Or.inl ⟨by rfl, ?_⟩) ?_ ?_
            rotate_left
            ·intro w'
             go_simp
             with_reducible rfl
            rotate_left
            ·simp only [Act.put, List.setIfInBounds_toArray, List.set_cons_zero, List.set_cons_succ, i64_w, i32_w]
             rfl
            refine one_ (i := 30) (N := some 55) #[true, true, true, true, true, true, true, true, true, true, true, true, true, true, true, true, true, true, true, true, true, true, true, true, true, true, true, true, true, true, true, false, false, false, false, false, false, false, false, false, false, false, false, false, false, false, false, false, false, false, false, false, false, false, false, false, false, false, false, false, false] rfl rfl (one_of HT_.out (by kernel_rfl)) (by decide) (fun K hK => ?_)
            refine goes_ Try.func23 (by kernel_rfl) rfl #[.slice (some ad173) t140.length co55] (by rfl) rfl rfl (by (try simp only [List.map_toArray, List.map_cons, List.map_nil]); first | done | rfl | (simp only [List.length_drop, List.length_take]; rfl)) ?_
            with_reducible refine (order_Rising.calls k _ _ t140 true _ ?side1 ?side2 A21.out).mono ?_
            (case side1 => repeat (first | exact (Kd.R_reads' HO143.out).2.2 | (with_reducible refine Kd.C_alloc ?_ _) | (with_reducible refine Kd.C_drewN ?_ _) | (with_reducible refine Kd.C_drew ?_)))
            (case side2 => exact (Kd.R_reads' HO143.out).2.1)
            rintro e w59 ⟨rfl, hb⟩
            have HS2_ := (hb.cell (World.block_lt_of_cell? _ _ (hHeld.2.2.1))).trans (hHeld.2.2.1)
            have HS3_ := (hb.cell (World.block_lt_of_cell? _ _ (hHeld.2.2.2.1))).trans (hHeld.2.2.2.1)
            have HS4_ := (hb.cell (World.block_lt_of_cell? _ _ (hHeld.2.2.2.2.1))).trans (hHeld.2.2.2.2.1)
            have HS5_ := (hb.cell (World.block_lt_of_cell? _ _ (hHeld.2.2.2.2.2))).trans (hHeld.2.2.2.2.2)
            refine ⟨_, rfl, ?_⟩
            have n0_ := Aside0.mk (Kd.R_below (by (with_reducible repeat (first | apply Kd.R_alloc | apply Kd.R_drewN | apply Kd.R_drew)); exact HO139.out) hb)
            have n1_ := Aside0.mk (Kd.R_below (by (with_reducible repeat (first | apply Kd.R_alloc | apply Kd.R_drewN | apply Kd.R_drew)); exact HO143.out) hb)
            have n2_ := Aside0.mk (Kd.R_below (by (with_reducible repeat (first | apply Kd.R_alloc | apply Kd.R_drewN | apply Kd.R_drew)); exact HO152.out) hb)
            have n3_ := Aside0.mk (Kd.R_below (by (with_reducible repeat (first | apply Kd.R_alloc | apply Kd.R_drewN | apply Kd.R_drew)); exact HO156.out) hb)
            have n4_ := Aside0.mk (Kd.R_below (by (with_reducible repeat (first | apply Kd.R_alloc | apply Kd.R_drewN | apply Kd.R_drew)); exact HO165.out) hb)
            have n5_ := Aside0.mk (blk_below (g := gb147) (o := .cells #[.int .i64 t144, .int .i64 t145] 23 (0, 0)) (by (with_reducible repeat (first | refine blk_drewN ?_ _ | refine blk_drew ?_ | refine blk_alloc ?_ _)); exact BK147.out) hb)
            have n6_ := Aside0.mk (below_step (by repeat (first | (with_reducible first | exact HB.out | apply below_alloc | apply pw_below_drewN | apply below_drew1 | refine below_set ?_ GE147.out) | exact HB.out)) hb)
            clear HO139
            clear HO143
            clear HO152
            clear HO156
            clear HO165
            clear BK147
            clear HB
            have HO139 := n0_
            have HO143 := n1_
            have HO152 := n2_
            have HO156 := n3_
            have HO165 := n4_
            have BK147 := n5_
            have HB := n6_
            clear n0_ n1_ n2_ n3_ n4_ n5_ n6_
            (try clear hb)
            (try clear hb2)
            (try clear hk)
            (try clear hi)
            refine hK.out _ _ ⟨(blk_cell BK147.out 0).trans rfl, (blk_cell BK147.out 1).trans rfl, HS2_, HS3_, HS4_, HS5_⟩ (fun hHeld => ?_)
            clear hK K
            refine norm_ (a' := ?_) ?_ ?_
            rotate_left
            ·show Act.put _ (some 55) _ = _
             simp only [Act.put, List.setIfInBounds_toArray, List.set_cons_zero, List.set_cons_succ, i64_w, i32_w]
             rfl
            refine pure_ (i := 31) (N := some 56) (v := ?_) (a' := ?_) #[true, true, true, true, true, true, true, true, true, true, true, true, true, true, true, true, true, true, true, true, true, true, true, true, true, true, true, true, true, true, true, true, false, false, false, false, false, false, false, false, false, false, false, false, false, false, false, false, false, false, false, false, false, false, false, false, false, false, false, false, false] rfl rfl (any_of HT_.out (by kernel_rfl)) (fun _ _ _ h => h) (Or.inl ⟨by rfl, ?_⟩) ?_ ?_
            rotate_left
            ·intro w'
             go_simp
             with_reducible rfl
            rotate_left
            ·simp only [Act.put, List.setIfInBounds_toArray, List.set_cons_zero, List.set_cons_succ, i64_w, i32_w]
             rfl
            refine pure_ (i := 32) (N := some 57) (v := ?_) (a' := ?_) #[true, true, true, true, true, true, true, true, true, true, true, true, true, true, true, true, true, true, true, true, true, true, true, true, true, true, true, true, true, true, true, true, true, false, false, false, false, false, false, false, false, false, false, false, false, false, false, false, false, false, false, false, false, false, false, false, false, false, false, false, false] rfl rfl (any_of HT_.out (by kernel_rfl)) (fun _ _ _ h => h) (Or.inl ⟨by rfl, ?_⟩) ?_ ?_
            rotate_left
            ·intro w'
             go_simp
             with_reducible rfl
            rotate_left
            ·simp only [Act.put, List.setIfInBounds_toArray, List.set_cons_zero, List.set_cons_succ, i64_w, i32_w]
             rfl
            refine pure_ (i := 33) (N := some 58) (v := ?_) (a' := ?_) #[true, true, true, true, true, true, true, true, true, true, true, true, true, true, true, true, true, true, true, true, true, true, true, true, true, true, true, true, true, true, true, true, true, true, false, false, false, false, false, false, false, false, false, false, false, false, false, false, false, false, false, false, false, false, false, false, false, false, false, false, false] rfl rfl (any_of HT_.out (by kernel_rfl)) (fun _ _ _ h => h) (Or.inl ⟨by rfl, ?_⟩) ?_ ?_
            rotate_left
            ·intro w'
             go_simp
             with_reducible rfl
            rotate_left
            ·simp only [Act.put, List.setIfInBounds_toArray, List.set_cons_zero, List.set_cons_succ, i64_w, i32_w]
             rfl
            refine take_ (i := 34) (N := some 59) (v := ?_) (a' := ?_) #[true, true, true, true, true, true, true, true, true, true, true, true, true, true, true, true, true, true, true, true, true, true, true, true, true, true, true, true, true, true, true, true, true, true, true, false, false, false, false, false, false, false, false, false, false, false, false, false, false, false, false, false, false, false, false, false, false, false, false, false, false] rfl rfl (take_ofW HT_.out HW_.out (by kernel_rfl)) (fun _ _ _ h => h) (Or.inl ⟨by rfl, ?_⟩) hHeld ?_ ?_
            rotate_left
            ·rintro w' ⟨s0, s1, s2, s3, s4, s5⟩
             go_simp
             with_reducible rfl
            rotate_left
            ·simp only [Act.put, List.setIfInBounds_toArray, List.set_cons_zero, List.set_cons_succ, i64_w, i32_w]
             rfl
            refine one_ (i := 35) (N := some 60) #[true, true, true, true, true, true, true, true, true, true, true, true, true, true, true, true, true, true, true, true, true, true, true, true, true, true, true, true, true, true, true, true, true, true, true, true, false, false, false, false, false, false, false, false, false, false, false, false, false, false, false, false, false, false, false, false, false, false, false, false, false] rfl rfl (one_of HT_.out (by kernel_rfl)) (by decide) (fun K hK => ?_)
            refine goes_ Try.func25 (by kernel_rfl) rfl #[.slice (some ad173) t140.length co55, .agg #[.int .i64 t144, .int .i64 t145]] (by rfl) rfl rfl (by (try simp only [List.map_toArray, List.map_cons, List.map_nil]); first | done | rfl | (simp only [List.length_drop, List.length_take]; rfl)) ?_
            with_reducible refine (order_Has.calls k _ _ t140 t144 t145 true _ ?side1 ?side2 A23.out).mono ?_
            (case side1 => repeat (first | exact (Kd.R_reads' HO143.out).2.2 | (with_reducible refine Kd.C_alloc ?_ _) | (with_reducible refine Kd.C_drewN ?_ _) | (with_reducible refine Kd.C_drew ?_)))
            (case side2 => exact (Kd.R_reads' HO143.out).2.1)
            rintro e w60 ⟨rfl, hb⟩
            have HS2_ := (hb.cell (World.block_lt_of_cell? _ _ (hHeld.2.2.1))).trans (hHeld.2.2.1)
            have HS3_ := (hb.cell (World.block_lt_of_cell? _ _ (hHeld.2.2.2.1))).trans (hHeld.2.2.2.1)
            have HS4_ := (hb.cell (World.block_lt_of_cell? _ _ (hHeld.2.2.2.2.1))).trans (hHeld.2.2.2.2.1)
            have HS5_ := (hb.cell (World.block_lt_of_cell? _ _ (hHeld.2.2.2.2.2))).trans (hHeld.2.2.2.2.2)
            refine ⟨_, rfl, ?_⟩
            have n0_ := Aside0.mk (Kd.R_below (by (with_reducible repeat (first | apply Kd.R_alloc | apply Kd.R_drewN | apply Kd.R_drew)); exact HO139.out) hb)
            have n1_ := Aside0.mk (Kd.R_below (by (with_reducible repeat (first | apply Kd.R_alloc | apply Kd.R_drewN | apply Kd.R_drew)); exact HO143.out) hb)
            have n2_ := Aside0.mk (Kd.R_below (by (with_reducible repeat (first | apply Kd.R_alloc | apply Kd.R_drewN | apply Kd.R_drew)); exact HO152.out) hb)
            have n3_ := Aside0.mk (Kd.R_below (by (with_reducible repeat (first | apply Kd.R_alloc | apply Kd.R_drewN | apply Kd.R_drew)); exact HO156.out) hb)
            have n4_ := Aside0.mk (Kd.R_below (by (with_reducible repeat (first | apply Kd.R_alloc | apply Kd.R_drewN | apply Kd.R_drew)); exact HO165.out) hb)
            have n5_ := Aside0.mk (blk_below (g := gb147) (o := .cells #[.int .i64 t144, .int .i64 t145] 23 (0, 0)) (by (with_reducible repeat (first | refine blk_drewN ?_ _ | refine blk_drew ?_ | refine blk_alloc ?_ _)); exact BK147.out) hb)
            have n6_ := Aside0.mk (below_step (by repeat (first | (with_reducible first | exact HB.out | apply below_alloc | apply pw_below_drewN | apply below_drew1 | refine below_set ?_ GE147.out) | exact HB.out)) hb)
            clear HO139
            clear HO143
            clear HO152
            clear HO156
            clear HO165
            clear BK147
            clear HB
            have HO139 := n0_
            have HO143 := n1_
            have HO152 := n2_
            have HO156 := n3_
            have HO165 := n4_
            have BK147 := n5_
            have HB := n6_
            clear n0_ n1_ n2_ n3_ n4_ n5_ n6_
            (try clear hb)
            (try clear hb2)
            (try clear hk)
            (try clear hi)
            refine hK.out _ _ ⟨(blk_cell BK147.out 0).trans rfl, (blk_cell BK147.out 1).trans rfl, HS2_, HS3_, HS4_, HS5_⟩ (fun hHeld => ?_)
            clear hK K
            refine norm_ (a' := ?_) ?_ ?_
            rotate_left
            ·show Act.put _ (some 60) _ = _
             simp only [Act.put, List.setIfInBounds_toArray, List.set_cons_zero, List.set_cons_succ, i64_w, i32_w]
             rfl
            refine pure_ (i := 36) (N := some 61) (v := ?_) (a' := ?_) #[true, true, true, true, true, true, true, true, true, true, true, true, true, true, true, true, true, true, true, true, true, true, true, true, true, true, true, true, true, true, true, true, true, true, true, true, true, false, false, false, false, false, false, false, false, false, false, false, false, false, false, false, false, false, false, false, false, false, false, false, false] rfl rfl (any_of HT_.out (by kernel_rfl)) (fun _ _ _ h => h) (Or.inl ⟨by rfl, ?_⟩) ?_ ?_
            rotate_left
            ·intro w'
             go_simp
             with_reducible rfl
            rotate_left
            ·simp only [Act.put, List.setIfInBounds_toArray, List.set_cons_zero, List.set_cons_succ, i64_w, i32_w]
             rfl
            refine pure_ (i := 37) (N := some 62) (v := ?_) (a' := ?_) #[true, true, true, true, true, true, true, true, true, true, true, true, true, true, true, true, true, true, true, true, true, true, true, true, true, true, true, true, true, true, true, true, true, true, true, true, true, true, false, false, false, false, false, false, false, false, false, false, false, false, false, false, false, false, false, false, false, false, false, false, false] rfl rfl (any_of HT_.out (by kernel_rfl)) (fun _ _ _ h => h) (Or.inl ⟨by rfl, ?_⟩) ?_ ?_
            rotate_left
            ·intro w'
             go_simp
             with_reducible rfl
            rotate_left
            ·simp only [Act.put, List.setIfInBounds_toArray, List.set_cons_zero, List.set_cons_succ, i64_w, i32_w]
             rfl
            refine pure_ (i := 38) (N := some 63) (v := ?_) (a' := ?_) #[true, true, true, true, true, true, true, true, true, true, true, true, true, true, true, true, true, true, true, true, true, true, true, true, true, true, true, true, true, true, true, true, true, true, true, true, true, true, true, false, false, false, false, false, false, false, false, false, false, false, false, false, false, false, false, false, false, false, false, false, false] rfl rfl (any_of HT_.out (by kernel_rfl)) (fun _ _ _ h => h) (Or.inl ⟨by rfl, ?_⟩) ?_ ?_
            rotate_left
            ·intro w'
             go_simp
             with_reducible rfl
            rotate_left
            ·simp only [Act.put, List.setIfInBounds_toArray, List.set_cons_zero, List.set_cons_succ, i64_w, i32_w]
             rfl
            refine pure_ (i := 39) (N := some 64) (v := ?_) (a' := ?_) #[true, true, true, true, true, true, true, true, true, true, true, true, true, true, true, true, true, true, true, true, true, true, true, true, true, true, true, true, true, true, true, true, true, true, true, true, true, true, true, true, false, false, false, false, false, false, false, false, false, false, false, false, false, false, false, false, false, false, false, false, false] rfl rfl (any_of HT_.out (by kernel_rfl)) (fun _ _ _ h => h) (Or.inl ⟨by rfl, ?_⟩) ?_ ?_
            rotate_left
            ·intro w'
             go_simp
             with_reducible rfl
            rotate_left
            ·simp only [Act.put, List.setIfInBounds_toArray, List.set_cons_zero, List.set_cons_succ, i64_w, i32_w]
             rfl
            refine pure_ (i := 41) (N := some 66) (v := ?_) (a' := ?_) #[true, true, true, true, true, true, true, true, true, true, true, true, true, true, true, true, true, true, true, true, true, true, true, true, true, true, true, true, true, true, true, true, true, true, true, true, true, true, true, true, false, true, false, false, false, false, false, false, false, false, false, false, false, false, false, false, false, false, false, false, false] rfl rfl (any_of HT_.out (by kernel_rfl)) (fun _ _ _ h => h) (Or.inl ⟨by rfl, ?_⟩) ?_ ?_
            rotate_left
            ·intro w'
             go_simp
             with_reducible rfl
            rotate_left
            ·simp only [Act.put, List.setIfInBounds_toArray, List.set_cons_zero, List.set_cons_succ, i64_w, i32_w]
             rfl
            refine pure_ (i := 42) (N := some 67) (v := ?_) (a' := ?_) #[true, true, true, true, true, true, true, true, true, true, true, true, true, true, true, true, true, true, true, true, true, true, true, true, true, true, true, true, true, true, true, true, true, true, true, true, true, true, true, true, false, true, true, false, false, false, false, false, false, false, false, false, false, false, false, false, false, false, false, false, false] rfl rfl (any_of HT_.out (by kernel_rfl)) (fun _ _ _ h => h) (Or.inl ⟨by rfl, ?_⟩) ?_ ?_
            rotate_left
            ·intro w'
             go_simp
             with_reducible rfl
            rotate_left
            ·simp only [Act.put, List.setIfInBounds_toArray, List.set_cons_zero, List.set_cons_succ, i64_w, i32_w]
             rfl
            refine take_ (i := 40) (N := some 65) (v := ?_) (a' := ?_) #[true, true, true, true, true, true, true, true, true, true, true, true, true, true, true, true, true, true, true, true, true, true, true, true, true, true, true, true, true, true, true, true, true, true, true, true, true, true, true, true, true, true, true, false, false, false, false, false, false, false, false, false, false, false, false, false, false, false, false, false, false] rfl rfl (take_ofW HT_.out HW_.out (by kernel_rfl)) (fun _ _ _ h => h) (Or.inl ⟨by rfl, ?_⟩) hHeld ?_ ?_
            rotate_left
            ·rintro w' ⟨s0, s1, s2, s3, s4, s5⟩
             go_simp
             with_reducible rfl
            rotate_left
            ·simp only [Act.put, List.setIfInBounds_toArray, List.set_cons_zero, List.set_cons_succ, i64_w, i32_w]
             rfl
            refine take_ (i := 43) (N := some 68) (v := ?_) (a' := ?_) #[true, true, true, true, true, true, true, true, true, true, true, true, true, true, true, true, true, true, true, true, true, true, true, true, true, true, true, true, true, true, true, true, true, true, true, true, true, true, true, true, true, true, true, true, false, false, false, false, false, false, false, false, false, false, false, false, false, false, false, false, false] rfl rfl (take_ofW HT_.out HW_.out (by kernel_rfl)) (fun _ _ _ h => h) (Or.inl ⟨by rfl, ?_⟩) hHeld ?_ ?_
            rotate_left
            ·rintro w' ⟨s0, s1, s2, s3, s4, s5⟩
             go_simp
             with_reducible rfl
            rotate_left
            ·simp only [Act.put, List.setIfInBounds_toArray, List.set_cons_zero, List.set_cons_succ, i64_w, i32_w]
             rfl
            refine one_ (i := 44) (N := some 69) #[true, true, true, true, true, true, true, true, true, true, true, true, true, true, true, true, true, true, true, true, true, true, true, true, true, true, true, true, true, true, true, true, true, true, true, true, true, true, true, true, true, true, true, true, true, false, false, false, false, false, false, false, false, false, false, false, false, false, false, false, false] rfl rfl (one_of HT_.out (by kernel_rfl)) (by decide) (fun K hK => ?_)
            refine goes_ Try.func15 (by kernel_rfl) rfl #[.agg #[.int .i64 ((rd_T23 t140 0).f0), .int .i64 ((rd_T23 t140 0).f1)], .agg #[.int .i64 ((rd_T23 t140 1).f0), .int .i64 ((rd_T23 t140 1).f1)]] (by rfl) rfl rfl (by (try simp only [List.map_toArray, List.map_cons, List.map_nil]); first | done | rfl | (simp only [List.length_drop, List.length_take]; rfl)) ?_
            with_reducible refine (order_Less.calls k ((rd_T23 t140 0).f0) ((rd_T23 t140 0).f1) ((rd_T23 t140 1).f0) ((rd_T23 t140 1).f1) true _ A27.out).mono ?_
            rintro e w61 ⟨rfl, hb⟩
            have HS2_ := (hb.cell (World.block_lt_of_cell? _ _ (hHeld.2.2.1))).trans (hHeld.2.2.1)
            have HS3_ := (hb.cell (World.block_lt_of_cell? _ _ (hHeld.2.2.2.1))).trans (hHeld.2.2.2.1)
            have HS4_ := (hb.cell (World.block_lt_of_cell? _ _ (hHeld.2.2.2.2.1))).trans (hHeld.2.2.2.2.1)
            have HS5_ := (hb.cell (World.block_lt_of_cell? _ _ (hHeld.2.2.2.2.2))).trans (hHeld.2.2.2.2.2)
            refine ⟨_, rfl, ?_⟩
            have n0_ := Aside0.mk (Kd.R_below (by (with_reducible repeat (first | apply Kd.R_alloc | apply Kd.R_drewN | apply Kd.R_drew)); exact HO139.out) hb)
            have n1_ := Aside0.mk (Kd.R_below (by (with_reducible repeat (first | apply Kd.R_alloc | apply Kd.R_drewN | apply Kd.R_drew)); exact HO143.out) hb)
            have n2_ := Aside0.mk (Kd.R_below (by (with_reducible repeat (first | apply Kd.R_alloc | apply Kd.R_drewN | apply Kd.R_drew)); exact HO152.out) hb)
            have n3_ := Aside0.mk (Kd.R_below (by (with_reducible repeat (first | apply Kd.R_alloc | apply Kd.R_drewN | apply Kd.R_drew)); exact HO156.out) hb)
            have n4_ := Aside0.mk (Kd.R_below (by (with_reducible repeat (first | apply Kd.R_alloc | apply Kd.R_drewN | apply Kd.R_drew)); exact HO165.out) hb)
            have n5_ := Aside0.mk (blk_below (g := gb147) (o := .cells #[.int .i64 t144, .int .i64 t145] 23 (0, 0)) (by (with_reducible repeat (first | refine blk_drewN ?_ _ | refine blk_drew ?_ | refine blk_alloc ?_ _)); exact BK147.out) hb)
            have n6_ := Aside0.mk (below_step (by repeat (first | (with_reducible first | exact HB.out | apply below_alloc | apply pw_below_drewN | apply below_drew1 | refine below_set ?_ GE147.out) | exact HB.out)) hb)
            clear HO139
            clear HO143
            clear HO152
            clear HO156
            clear HO165
            clear BK147
            clear HB
            have HO139 := n0_
            have HO143 := n1_
            have HO152 := n2_
            have HO156 := n3_
            have HO165 := n4_
            have BK147 := n5_
            have HB := n6_
            clear n0_ n1_ n2_ n3_ n4_ n5_ n6_
            (try clear hb)
            (try clear hb2)
            (try clear hk)
            (try clear hi)
            refine hK.out _ _ ⟨(blk_cell BK147.out 0).trans rfl, (blk_cell BK147.out 1).trans rfl, HS2_, HS3_, HS4_, HS5_⟩ (fun hHeld => ?_)
            clear hK K
            refine norm_ (a' := ?_) ?_ ?_
            rotate_left
            ·show Act.put _ (some 69) _ = _
             simp only [Act.put, List.setIfInBounds_toArray, List.set_cons_zero, List.set_cons_succ, i64_w, i32_w]
             rfl
            refine pure_ (i := 45) (N := some 70) (v := ?_) (a' := ?_) #[true, true, true, true, true, true, true, true, true, true, true, true, true, true, true, true, true, true, true, true, true, true, true, true, true, true, true, true, true, true, true, true, true, true, true, true, true, true, true, true, true, true, true, true, true, true, false, false, false, false, false, false, false, false, false, false, false, false, false, false, false] rfl rfl (any_of HT_.out (by kernel_rfl)) (fun _ _ _ h => h) (Or.inl ⟨by rfl, ?_⟩) ?_ ?_
            rotate_left
            ·intro w'
             go_simp
             with_reducible rfl
            rotate_left
            ·simp only [Act.put, List.setIfInBounds_toArray, List.set_cons_zero, List.set_cons_succ, i64_w, i32_w]
             rfl
            refine pure_ (i := 46) (N := some 71) (v := ?_) (a' := ?_) #[true, true, true, true, true, true, true, true, true, true, true, true, true, true, true, true, true, true, true, true, true, true, true, true, true, true, true, true, true, true, true, true, true, true, true, true, true, true, true, true, true, true, true, true, true, true, true, false, false, false, false, false, false, false, false, false, false, false, false, false, false] rfl rfl (any_of HT_.out (by kernel_rfl)) (fun _ _ _ h => h) (Or.inl ⟨by rfl, ?_⟩) ?_ ?_
            rotate_left
            ·intro w'
             go_simp
             with_reducible rfl
            rotate_left
            ·simp only [Act.put, List.setIfInBounds_toArray, List.set_cons_zero, List.set_cons_succ, i64_w, i32_w]
             rfl
            refine pure_ (i := 47) (N := some 72) (v := ?_) (a' := ?_) #[true, true, true, true, true, true, true, true, true, true, true, true, true, true, true, true, true, true, true, true, true, true, true, true, true, true, true, true, true, true, true, true, true, true, true, true, true, true, true, true, true, true, true, true, true, true, true, true, false, false, false, false, false, false, false, false, false, false, false, false, false] rfl rfl (any_of HT_.out (by kernel_rfl)) (fun _ _ _ h => h) (Or.inl ⟨by rfl, ?_⟩) ?_ ?_
            rotate_left
            ·intro w'
             go_simp
             with_reducible rfl
            rotate_left
            ·simp only [Act.put, List.setIfInBounds_toArray, List.set_cons_zero, List.set_cons_succ, i64_w, i32_w]
             rfl
            refine one_ (i := 48) (N := some 73) #[true, true, true, true, true, true, true, true, true, true, true, true, true, true, true, true, true, true, true, true, true, true, true, true, true, true, true, true, true, true, true, true, true, true, true, true, true, true, true, true, true, true, true, true, true, true, true, true, true, false, false, false, false, false, false, false, false, false, false, false, false] rfl rfl (one_of HT_.out (by kernel_rfl)) (by decide) (fun K hK => ?_)
            refine goes_ Try.func29 (by kernel_rfl) rfl #[.int .i64 1, .int .i64 3] (by rfl) rfl rfl (by (try simp only [List.map_toArray, List.map_cons, List.map_nil]); first | done | rfl | (simp only [List.length_drop, List.length_take]; rfl)) ?_
            with_reducible refine (garrisonlaw06_key.calls 1 3 t176 t177 _ A29.out).mono ?_
            rintro e w62 ⟨rfl, hb⟩
            have HS2_ := (hb.cell (World.block_lt_of_cell? _ _ (hHeld.2.2.1))).trans (hHeld.2.2.1)
            have HS3_ := (hb.cell (World.block_lt_of_cell? _ _ (hHeld.2.2.2.1))).trans (hHeld.2.2.2.1)
            have HS4_ := (hb.cell (World.block_lt_of_cell? _ _ (hHeld.2.2.2.2.1))).trans (hHeld.2.2.2.2.1)
            have HS5_ := (hb.cell (World.block_lt_of_cell? _ _ (hHeld.2.2.2.2.2))).trans (hHeld.2.2.2.2.2)
            refine ⟨_, rfl, ?_⟩
            have n0_ := Aside0.mk (Kd.R_below (by (with_reducible repeat (first | apply Kd.R_alloc | apply Kd.R_drewN | apply Kd.R_drew)); exact HO139.out) hb)
            have n1_ := Aside0.mk (Kd.R_below (by (with_reducible repeat (first | apply Kd.R_alloc | apply Kd.R_drewN | apply Kd.R_drew)); exact HO143.out) hb)
            have n2_ := Aside0.mk (Kd.R_below (by (with_reducible repeat (first | apply Kd.R_alloc | apply Kd.R_drewN | apply Kd.R_drew)); exact HO152.out) hb)
            have n3_ := Aside0.mk (Kd.R_below (by (with_reducible repeat (first | apply Kd.R_alloc | apply Kd.R_drewN | apply Kd.R_drew)); exact HO156.out) hb)
            have n4_ := Aside0.mk (Kd.R_below (by (with_reducible repeat (first | apply Kd.R_alloc | apply Kd.R_drewN | apply Kd.R_drew)); exact HO165.out) hb)
            have n5_ := Aside0.mk (blk_below (g := gb147) (o := .cells #[.int .i64 t144, .int .i64 t145] 23 (0, 0)) (by (with_reducible repeat (first | refine blk_drewN ?_ _ | refine blk_drew ?_ | refine blk_alloc ?_ _)); exact BK147.out) hb)
            have n6_ := Aside0.mk (below_step (by repeat (first | (with_reducible first | exact HB.out | apply below_alloc | apply pw_below_drewN | apply below_drew1 | refine below_set ?_ GE147.out) | exact HB.out)) hb)
            clear HO139
            clear HO143
            clear HO152
            clear HO156
            clear HO165
            clear BK147
            clear HB
            have HO139 := n0_
            have HO143 := n1_
            have HO152 := n2_
            have HO156 := n3_
            have HO165 := n4_
            have BK147 := n5_
            have HB := n6_
            clear n0_ n1_ n2_ n3_ n4_ n5_ n6_
            (try clear hb)
            (try clear hb2)
            (try clear hk)
            (try clear hi)
            refine hK.out _ _ ⟨(blk_cell BK147.out 0).trans rfl, (blk_cell BK147.out 1).trans rfl, HS2_, HS3_, HS4_, HS5_⟩ (fun hHeld => ?_)
            clear hK K
            refine norm_ (a' := ?_) ?_ ?_
            rotate_left
            ·show Act.put _ (some 73) _ = _
             simp only [Act.put, List.setIfInBounds_toArray, List.set_cons_zero, List.set_cons_succ, i64_w, i32_w]
             rfl
            refine one_ (i := 49) (N := some 74) #[true, true, true, true, true, true, true, true, true, true, true, true, true, true, true, true, true, true, true, true, true, true, true, true, true, true, true, true, true, true, true, true, true, true, true, true, true, true, true, true, true, true, true, true, true, true, true, true, true, true, false, false, false, false, false, false, false, false, false, false, false] rfl rfl (one_of HT_.out (by kernel_rfl)) (by decide) (fun K hK => ?_)
            refine Kd.R_lit_step k23 _ 23 ?hg (N := 74) ?hd (xs := ([(⟨t176, t177⟩ : S23)] : List (S23))) (inner := [.int .i64 t176, .int .i64 t177]) (ok := fun _ => True) (okp := fun _ => True) ?hr ?hp (fun _ hk => hk) trivial (Below.refl _ _) (Nat.le_refl _) (by simp) ?_; (case hd => rfl); (case hg => rfl); (case hr => first | (go_simp; done) | (go_simp; rfl)); (case hp => exact (Reps.c2 (show Kd.M k23 _ _ _ (⟨t176, t177⟩ : S23) [.int .i64 t176, .int .i64 t177] from (k23_mkM _ _ _ (⟨t176, t177⟩ : S23) )) (Reps.none _ _)))
            intro v179 w63 ho64 hb hg_ hnew_
            have HS2_ := (hb.cell (World.block_lt_of_cell? _ _ (hHeld.2.2.1))).trans (hHeld.2.2.1)
            have HS3_ := (hb.cell (World.block_lt_of_cell? _ _ (hHeld.2.2.2.1))).trans (hHeld.2.2.2.1)
            have HS4_ := (hb.cell (World.block_lt_of_cell? _ _ (hHeld.2.2.2.2.1))).trans (hHeld.2.2.2.2.1)
            have HS5_ := (hb.cell (World.block_lt_of_cell? _ _ (hHeld.2.2.2.2.2))).trans (hHeld.2.2.2.2.2)
            clear hg_ hnew_
            (first | rw [← Ny178.out] at ho64 | (simp only [Int.reduceToNat] at ho64; rw [← Ny178.out] at ho64))
            have n0_ := Aside0.mk (Kd.R_elder' (by (with_reducible repeat (first | apply Kd.R_alloc | apply Kd.R_drewN | apply Kd.R_drew)); exact HO139.out) (Kd.R_base ho64) hb)
            have n1_ := Aside0.mk (Kd.R_elder' (by (with_reducible repeat (first | apply Kd.R_alloc | apply Kd.R_drewN | apply Kd.R_drew)); exact HO143.out) (Kd.R_base ho64) hb)
            have n2_ := Aside0.mk (Kd.R_elder' (by (with_reducible repeat (first | apply Kd.R_alloc | apply Kd.R_drewN | apply Kd.R_drew)); exact HO152.out) (Kd.R_base ho64) hb)
            have n3_ := Aside0.mk (Kd.R_elder' (by (with_reducible repeat (first | apply Kd.R_alloc | apply Kd.R_drewN | apply Kd.R_drew)); exact HO156.out) (Kd.R_base ho64) hb)
            have n4_ := Aside0.mk (Kd.R_elder' (by (with_reducible repeat (first | apply Kd.R_alloc | apply Kd.R_drewN | apply Kd.R_drew)); exact HO165.out) (Kd.R_base ho64) hb)
            have n5_ := Aside0.mk (Kd.R_lower (Kd.R_newB (Kd.R_new' (Kd.R_new' (Kd.R_new' (Kd.R_new' (Kd.R_new' ho64 (Kd.R_lt (by (with_reducible repeat (first | apply Kd.R_alloc | apply Kd.R_drewN | apply Kd.R_drew)); exact HO139.out))) (Kd.R_lt (by (with_reducible repeat (first | apply Kd.R_alloc | apply Kd.R_drewN | apply Kd.R_drew)); exact HO143.out))) (Kd.R_lt (by (with_reducible repeat (first | apply Kd.R_alloc | apply Kd.R_drewN | apply Kd.R_drew)); exact HO152.out))) (Kd.R_lt (by (with_reducible repeat (first | apply Kd.R_alloc | apply Kd.R_drewN | apply Kd.R_drew)); exact HO156.out))) (Kd.R_lt (by (with_reducible repeat (first | apply Kd.R_alloc | apply Kd.R_drewN | apply Kd.R_drew)); exact HO165.out))) (g := gb147) (o := .cells #[.int .i64 t144, .int .i64 t145] 23 (0, 0)) (by (with_reducible repeat (first | refine blk_drewN ?_ _ | refine blk_drew ?_ | refine blk_alloc ?_ _)); exact BK147.out)) (below_size (by repeat (first | (with_reducible first | exact HB.out | apply below_alloc | apply pw_below_drewN | apply below_drew1 | refine below_set ?_ GE147.out) | exact HB.out))))
            have n6_ := Aside0.mk (blk_below (g := gb147) (o := .cells #[.int .i64 t144, .int .i64 t145] 23 (0, 0)) (by (with_reducible repeat (first | refine blk_drewN ?_ _ | refine blk_drew ?_ | refine blk_alloc ?_ _)); exact BK147.out) hb)
            have n7_ := Aside0.mk (below_step (by repeat (first | (with_reducible first | exact HB.out | apply below_alloc | apply pw_below_drewN | apply below_drew1 | refine below_set ?_ GE147.out) | exact HB.out)) hb)
            clear HO139
            clear HO143
            clear HO152
            clear HO156
            clear HO165
            clear BK147
            clear HB
            have HO139 := n0_
            have HO143 := n1_
            have HO152 := n2_
            have HO156 := n3_
            have HO165 := n4_
            have HO180 := n5_
            have BK147 := n6_
            have HB := n7_
            clear n0_ n1_ n2_ n3_ n4_ n5_ n6_ n7_
            clear hb ho64
            obtain ⟨Ao65, co65, eo65⟩ := Kd.R_slice HO180.out
            (first | subst eo65 | (injection eo65 with f1_ f2_ f3_; have f4_ := f1_.symm; have f5_ := f3_.symm; clear f1_ f2_ f3_; subst f4_; subst f5_))
            refine hK.out _ _ ⟨(blk_cell BK147.out 0).trans rfl, (blk_cell BK147.out 1).trans rfl, HS2_, HS3_, HS4_, HS5_⟩ (fun hHeld => ?_)
            clear hK K
            refine norm_ (a' := ?_) ?_ ?_
            rotate_left
            ·show Act.put _ (some 74) _ = _
             simp only [Act.put, List.setIfInBounds_toArray, List.set_cons_zero, List.set_cons_succ, i64_w, i32_w]
             rfl
            refine one_ (i := 50) (N := some 75) #[true, true, true, true, true, true, true, true, true, true, true, true, true, true, true, true, true, true, true, true, true, true, true, true, true, true, true, true, true, true, true, true, true, true, true, true, true, true, true, true, true, true, true, true, true, true, true, true, true, true, true, false, false, false, false, false, false, false, false, false, false] rfl rfl (one_of HT_.out (by kernel_rfl)) (by decide) (fun K hK => ?_)
            refine goes_ Try.func27 (by kernel_rfl) rfl #[.slice (some ad173) t140.length co55, .slice Ao65 y178.length co65] (by rfl) rfl rfl (by (try simp only [List.map_toArray, List.map_cons, List.map_nil]); first | done | rfl | (simp only [List.length_drop, List.length_take]; rfl)) ?_
            with_reducible refine (order_Merge.calls _ _ t140 _ _ y178 t181 _ ?side1 ?side2 ?side3 ?side4 A30.out).mono ?_
            (case side1 => repeat (first | exact (Kd.R_reads' HO143.out).2.2 | (with_reducible refine Kd.C_alloc ?_ _) | (with_reducible refine Kd.C_drewN ?_ _) | (with_reducible refine Kd.C_drew ?_)))
            (case side2 => exact (Kd.R_reads' HO143.out).2.1)
            (case side3 => repeat (first | exact (Kd.R_reads' HO180.out).2.2 | (with_reducible refine Kd.C_alloc ?_ _) | (with_reducible refine Kd.C_drewN ?_ _) | (with_reducible refine Kd.C_drew ?_)))
            (case side4 => exact (Kd.R_reads' HO180.out).2.1)
            rintro e w66 ⟨v182, rfl, ho0, hb⟩
            have HS2_ := (hb.cell (World.block_lt_of_cell? _ _ (hHeld.2.2.1))).trans (hHeld.2.2.1)
            have HS3_ := (hb.cell (World.block_lt_of_cell? _ _ (hHeld.2.2.2.1))).trans (hHeld.2.2.2.1)
            have HS4_ := (hb.cell (World.block_lt_of_cell? _ _ (hHeld.2.2.2.2.1))).trans (hHeld.2.2.2.2.1)
            have HS5_ := (hb.cell (World.block_lt_of_cell? _ _ (hHeld.2.2.2.2.2))).trans (hHeld.2.2.2.2.2)
            refine ⟨_, rfl, ?_⟩
            have n0_ := Aside0.mk (Kd.R_elder' (by (with_reducible repeat (first | apply Kd.R_alloc | apply Kd.R_drewN | apply Kd.R_drew)); exact HO139.out) (Kd.R_base ho0) hb)
            have n1_ := Aside0.mk (Kd.R_elder' (by (with_reducible repeat (first | apply Kd.R_alloc | apply Kd.R_drewN | apply Kd.R_drew)); exact HO143.out) (Kd.R_base ho0) hb)
            have n2_ := Aside0.mk (Kd.R_elder' (by (with_reducible repeat (first | apply Kd.R_alloc | apply Kd.R_drewN | apply Kd.R_drew)); exact HO152.out) (Kd.R_base ho0) hb)
            have n3_ := Aside0.mk (Kd.R_elder' (by (with_reducible repeat (first | apply Kd.R_alloc | apply Kd.R_drewN | apply Kd.R_drew)); exact HO156.out) (Kd.R_base ho0) hb)
            have n4_ := Aside0.mk (Kd.R_elder' (by (with_reducible repeat (first | apply Kd.R_alloc | apply Kd.R_drewN | apply Kd.R_drew)); exact HO165.out) (Kd.R_base ho0) hb)
            have n5_ := Aside0.mk (Kd.R_elder' (by (with_reducible repeat (first | apply Kd.R_alloc | apply Kd.R_drewN | apply Kd.R_drew)); exact HO180.out) (Kd.R_base ho0) hb)
            have n6_ := Aside0.mk (Kd.R_lower (Kd.R_newB (Kd.R_new' (Kd.R_new' (Kd.R_new' (Kd.R_new' (Kd.R_new' (Kd.R_new' ho0 (Kd.R_lt (by (with_reducible repeat (first | apply Kd.R_alloc | apply Kd.R_drewN | apply Kd.R_drew)); exact HO139.out))) (Kd.R_lt (by (with_reducible repeat (first | apply Kd.R_alloc | apply Kd.R_drewN | apply Kd.R_drew)); exact HO143.out))) (Kd.R_lt (by (with_reducible repeat (first | apply Kd.R_alloc | apply Kd.R_drewN | apply Kd.R_drew)); exact HO152.out))) (Kd.R_lt (by (with_reducible repeat (first | apply Kd.R_alloc | apply Kd.R_drewN | apply Kd.R_drew)); exact HO156.out))) (Kd.R_lt (by (with_reducible repeat (first | apply Kd.R_alloc | apply Kd.R_drewN | apply Kd.R_drew)); exact HO165.out))) (Kd.R_lt (by (with_reducible repeat (first | apply Kd.R_alloc | apply Kd.R_drewN | apply Kd.R_drew)); exact HO180.out))) (g := gb147) (o := .cells #[.int .i64 t144, .int .i64 t145] 23 (0, 0)) (by (with_reducible repeat (first | refine blk_drewN ?_ _ | refine blk_drew ?_ | refine blk_alloc ?_ _)); exact BK147.out)) (below_size (by repeat (first | (with_reducible first | exact HB.out | apply below_alloc | apply pw_below_drewN | apply below_drew1 | refine below_set ?_ GE147.out) | exact HB.out))))
            have n7_ := Aside0.mk (blk_below (g := gb147) (o := .cells #[.int .i64 t144, .int .i64 t145] 23 (0, 0)) (by (with_reducible repeat (first | refine blk_drewN ?_ _ | refine blk_drew ?_ | refine blk_alloc ?_ _)); exact BK147.out) hb)
            have n8_ := Aside0.mk (below_step (by repeat (first | (with_reducible first | exact HB.out | apply below_alloc | apply pw_below_drewN | apply below_drew1 | refine below_set ?_ GE147.out) | exact HB.out)) hb)
            clear HO139
            clear HO143
            clear HO152
            clear HO156
            clear HO165
            clear HO180
            clear BK147
            clear HB
            have HO139 := n0_
            have HO143 := n1_
            have HO152 := n2_
            have HO156 := n3_
            have HO165 := n4_
            have HO180 := n5_
            have HO183 := n6_
            have BK147 := n7_
            have HB := n8_
            clear n0_ n1_ n2_ n3_ n4_ n5_ n6_ n7_ n8_
            (try clear hb)
            (try clear hb2)
            (try clear hk)
            (try clear hi)
            (try clear ho0)
            obtain ⟨Ao67, co67, eo67⟩ := Kd.R_slice HO183.out
            (first | subst eo67 | (injection eo67 with f1_ f2_ f3_; have f4_ := f1_.symm; have f5_ := f3_.symm; clear f1_ f2_ f3_; subst f4_; subst f5_))
            refine hK.out _ _ ⟨(blk_cell BK147.out 0).trans rfl, (blk_cell BK147.out 1).trans rfl, HS2_, HS3_, HS4_, HS5_⟩ (fun hHeld => ?_)
            clear hK K
            refine norm_ (a' := ?_) ?_ ?_
            rotate_left
            ·show Act.put _ (some 75) _ = _
             simp only [Act.put, List.setIfInBounds_toArray, List.set_cons_zero, List.set_cons_succ, i64_w, i32_w]
             rfl
            refine pure_ (i := 51) (N := some 76) (v := ?_) (a' := ?_) #[true, true, true, true, true, true, true, true, true, true, true, true, true, true, true, true, true, true, true, true, true, true, true, true, true, true, true, true, true, true, true, true, true, true, true, true, true, true, true, true, true, true, true, true, true, true, true, true, true, true, true, true, false, false, false, false, false, false, false, false, false] rfl rfl (any_of HT_.out (by kernel_rfl)) (fun _ _ _ h => h) (Or.inl ⟨by rfl, ?_⟩) ?_ ?_
            rotate_left
            ·intro w'
             go_simp
             with_reducible rfl
            rotate_left
            ·simp only [Act.put, List.setIfInBounds_toArray, List.set_cons_zero, List.set_cons_succ, i64_w, i32_w]
             rfl
            refine pure_ (i := 52) (N := some 77) (v := ?_) (a' := ?_) #[true, true, true, true, true, true, true, true, true, true, true, true, true, true, true, true, true, true, true, true, true, true, true, true, true, true, true, true, true, true, true, true, true, true, true, true, true, true, true, true, true, true, true, true, true, true, true, true, true, true, true, true, true, false, false, false, false, false, false, false, false] rfl rfl (any_of HT_.out (by kernel_rfl)) (fun _ _ _ h => h) (Or.inl ⟨by rfl, ?_⟩) ?_ ?_
            rotate_left
            ·intro w'
             go_simp
             with_reducible rfl
            rotate_left
            ·simp only [Act.put, List.setIfInBounds_toArray, List.set_cons_zero, List.set_cons_succ, i64_w, i32_w]
             rfl
            refine pure_ (i := 53) (N := some 78) (v := ?_) (a' := ?_) #[true, true, true, true, true, true, true, true, true, true, true, true, true, true, true, true, true, true, true, true, true, true, true, true, true, true, true, true, true, true, true, true, true, true, true, true, true, true, true, true, true, true, true, true, true, true, true, true, true, true, true, true, true, true, false, false, false, false, false, false, false] rfl rfl (any_of HT_.out (by kernel_rfl)) (fun _ _ _ h => h) (Or.inl ⟨by rfl, ?_⟩) ?_ ?_
            rotate_left
            ·intro w'
             go_simp
             with_reducible rfl
            rotate_left
            ·simp only [Act.put, List.setIfInBounds_toArray, List.set_cons_zero, List.set_cons_succ, i64_w, i32_w]
             rfl
            refine pure_ (i := 54) (N := some 79) (v := ?_) (a' := ?_) #[true, true, true, true, true, true, true, true, true, true, true, true, true, true, true, true, true, true, true, true, true, true, true, true, true, true, true, true, true, true, true, true, true, true, true, true, true, true, true, true, true, true, true, true, true, true, true, true, true, true, true, true, true, true, true, false, false, false, false, false, false] rfl rfl (any_of HT_.out (by kernel_rfl)) (fun _ _ _ h => h) (Or.inl ⟨by rfl, ?_⟩) ?_ ?_
            rotate_left
            ·intro w'
             go_simp
             with_reducible rfl
            rotate_left
            ·simp only [Act.put, List.setIfInBounds_toArray, List.set_cons_zero, List.set_cons_succ, i64_w, i32_w]
             rfl
            refine one_ (i := 55) (N := some 80) #[true, true, true, true, true, true, true, true, true, true, true, true, true, true, true, true, true, true, true, true, true, true, true, true, true, true, true, true, true, true, true, true, true, true, true, true, true, true, true, true, true, true, true, true, true, true, true, true, true, true, true, true, true, true, true, true, false, false, false, false, false] rfl rfl (one_of HT_.out (by kernel_rfl)) (by decide) (fun K hK => ?_)
            refine goes_ Try.func29 (by kernel_rfl) rfl #[.int .i64 0, .int .i64 (-2)] (by rfl) rfl rfl (by (try simp only [List.map_toArray, List.map_cons, List.map_nil]); first | done | rfl | (simp only [List.length_drop, List.length_take]; rfl)) ?_
            with_reducible refine (garrisonlaw06_key.calls 0 (-2) t184 t185 _ A32.out).mono ?_
            rintro e w68 ⟨rfl, hb⟩
            have HS2_ := (hb.cell (World.block_lt_of_cell? _ _ (hHeld.2.2.1))).trans (hHeld.2.2.1)
            have HS3_ := (hb.cell (World.block_lt_of_cell? _ _ (hHeld.2.2.2.1))).trans (hHeld.2.2.2.1)
            have HS4_ := (hb.cell (World.block_lt_of_cell? _ _ (hHeld.2.2.2.2.1))).trans (hHeld.2.2.2.2.1)
            have HS5_ := (hb.cell (World.block_lt_of_cell? _ _ (hHeld.2.2.2.2.2))).trans (hHeld.2.2.2.2.2)
            refine ⟨_, rfl, ?_⟩
            have n0_ := Aside0.mk (Kd.R_below (by (with_reducible repeat (first | apply Kd.R_alloc | apply Kd.R_drewN | apply Kd.R_drew)); exact HO139.out) hb)
            have n1_ := Aside0.mk (Kd.R_below (by (with_reducible repeat (first | apply Kd.R_alloc | apply Kd.R_drewN | apply Kd.R_drew)); exact HO143.out) hb)
            have n2_ := Aside0.mk (Kd.R_below (by (with_reducible repeat (first | apply Kd.R_alloc | apply Kd.R_drewN | apply Kd.R_drew)); exact HO152.out) hb)
            have n3_ := Aside0.mk (Kd.R_below (by (with_reducible repeat (first | apply Kd.R_alloc | apply Kd.R_drewN | apply Kd.R_drew)); exact HO156.out) hb)
            have n4_ := Aside0.mk (Kd.R_below (by (with_reducible repeat (first | apply Kd.R_alloc | apply Kd.R_drewN | apply Kd.R_drew)); exact HO165.out) hb)
            have n5_ := Aside0.mk (Kd.R_below (by (with_reducible repeat (first | apply Kd.R_alloc | apply Kd.R_drewN | apply Kd.R_drew)); exact HO180.out) hb)
            have n6_ := Aside0.mk (Kd.R_below (by (with_reducible repeat (first | apply Kd.R_alloc | apply Kd.R_drewN | apply Kd.R_drew)); exact HO183.out) hb)
            have n7_ := Aside0.mk (blk_below (g := gb147) (o := .cells #[.int .i64 t144, .int .i64 t145] 23 (0, 0)) (by (with_reducible repeat (first | refine blk_drewN ?_ _ | refine blk_drew ?_ | refine blk_alloc ?_ _)); exact BK147.out) hb)
            have n8_ := Aside0.mk (below_step (by repeat (first | (with_reducible first | exact HB.out | apply below_alloc | apply pw_below_drewN | apply below_drew1 | refine below_set ?_ GE147.out) | exact HB.out)) hb)
            clear HO139
            clear HO143
            clear HO152
            clear HO156
            clear HO165
            clear HO180
            clear HO183
            clear BK147
            clear HB
            have HO139 := n0_
            have HO143 := n1_
            have HO152 := n2_
            have HO156 := n3_
            have HO165 := n4_
            have HO180 := n5_
            have HO183 := n6_
            have BK147 := n7_
            have HB := n8_
            clear n0_ n1_ n2_ n3_ n4_ n5_ n6_ n7_ n8_
            (try clear hb)
            (try clear hb2)
            (try clear hk)
            (try clear hi)
            refine hK.out _ _ ⟨(blk_cell BK147.out 0).trans rfl, (blk_cell BK147.out 1).trans rfl, HS2_, HS3_, HS4_, HS5_⟩ (fun hHeld => ?_)
            clear hK K
            refine norm_ (a' := ?_) ?_ ?_
            rotate_left
            ·show Act.put _ (some 80) _ = _
             simp only [Act.put, List.setIfInBounds_toArray, List.set_cons_zero, List.set_cons_succ, i64_w, i32_w]
             rfl
            refine one_ (i := 56) (N := some 81) #[true, true, true, true, true, true, true, true, true, true, true, true, true, true, true, true, true, true, true, true, true, true, true, true, true, true, true, true, true, true, true, true, true, true, true, true, true, true, true, true, true, true, true, true, true, true, true, true, true, true, true, true, true, true, true, true, true, false, false, false, false] rfl rfl (one_of HT_.out (by kernel_rfl)) (by decide) (fun K hK => ?_)
            refine goes_ Try.func13 (by kernel_rfl) rfl #[.agg #[.int .i64 t184, .int .i64 t185]] (by rfl) rfl rfl (by (try simp only [List.map_toArray, List.map_cons, List.map_nil]); first | done | rfl | (simp only [List.length_drop, List.length_take]; rfl)) ?_
            with_reducible refine (order_Check.calls t184 t185 t186 _ A33.out).mono ?_
            rintro e w69 ⟨rfl, hb⟩
            have HS2_ := (hb.cell (World.block_lt_of_cell? _ _ (hHeld.2.2.1))).trans (hHeld.2.2.1)
            have HS3_ := (hb.cell (World.block_lt_of_cell? _ _ (hHeld.2.2.2.1))).trans (hHeld.2.2.2.1)
            have HS4_ := (hb.cell (World.block_lt_of_cell? _ _ (hHeld.2.2.2.2.1))).trans (hHeld.2.2.2.2.1)
            have HS5_ := (hb.cell (World.block_lt_of_cell? _ _ (hHeld.2.2.2.2.2))).trans (hHeld.2.2.2.2.2)
            refine ⟨_, rfl, ?_⟩
            have n0_ := Aside0.mk (Kd.R_below (by (with_reducible repeat (first | apply Kd.R_alloc | apply Kd.R_drewN | apply Kd.R_drew)); exact HO139.out) hb)
            have n1_ := Aside0.mk (Kd.R_below (by (with_reducible repeat (first | apply Kd.R_alloc | apply Kd.R_drewN | apply Kd.R_drew)); exact HO143.out) hb)
            have n2_ := Aside0.mk (Kd.R_below (by (with_reducible repeat (first | apply Kd.R_alloc | apply Kd.R_drewN | apply Kd.R_drew)); exact HO152.out) hb)
            have n3_ := Aside0.mk (Kd.R_below (by (with_reducible repeat (first | apply Kd.R_alloc | apply Kd.R_drewN | apply Kd.R_drew)); exact HO156.out) hb)
            have n4_ := Aside0.mk (Kd.R_below (by (with_reducible repeat (first | apply Kd.R_alloc | apply Kd.R_drewN | apply Kd.R_drew)); exact HO165.out) hb)
            have n5_ := Aside0.mk (Kd.R_below (by (with_reducible repeat (first | apply Kd.R_alloc | apply Kd.R_drewN | apply Kd.R_drew)); exact HO180.out) hb)
            have n6_ := Aside0.mk (Kd.R_below (by (with_reducible repeat (first | apply Kd.R_alloc | apply Kd.R_drewN | apply Kd.R_drew)); exact HO183.out) hb)
            have n7_ := Aside0.mk (blk_below (g := gb147) (o := .cells #[.int .i64 t144, .int .i64 t145] 23 (0, 0)) (by (with_reducible repeat (first | refine blk_drewN ?_ _ | refine blk_drew ?_ | refine blk_alloc ?_ _)); exact BK147.out) hb)
            have n8_ := Aside0.mk (below_step (by repeat (first | (with_reducible first | exact HB.out | apply below_alloc | apply pw_below_drewN | apply below_drew1 | refine below_set ?_ GE147.out) | exact HB.out)) hb)
            clear HO139
            clear HO143
            clear HO152
            clear HO156
            clear HO165
            clear HO180
            clear HO183
            clear BK147
            clear HB
            have HO139 := n0_
            have HO143 := n1_
            have HO152 := n2_
            have HO156 := n3_
            have HO165 := n4_
            have HO180 := n5_
            have HO183 := n6_
            have BK147 := n7_
            have HB := n8_
            clear n0_ n1_ n2_ n3_ n4_ n5_ n6_ n7_ n8_
            (try clear hb)
            (try clear hb2)
            (try clear hk)
            (try clear hi)
            refine hK.out _ _ ⟨(blk_cell BK147.out 0).trans rfl, (blk_cell BK147.out 1).trans rfl, HS2_, HS3_, HS4_, HS5_⟩ (fun hHeld => ?_)
            clear hK K
            refine norm_ (a' := ?_) ?_ ?_
            rotate_left
            ·show Act.put _ (some 81) _ = _
             simp only [Act.put, List.setIfInBounds_toArray, List.set_cons_zero, List.set_cons_succ, i64_w, i32_w]
             rfl
            refine one_ (i := 57) (N := some 82) #[true, true, true, true, true, true, true, true, true, true, true, true, true, true, true, true, true, true, true, true, true, true, true, true, true, true, true, true, true, true, true, true, true, true, true, true, true, true, true, true, true, true, true, true, true, true, true, true, true, true, true, true, true, true, true, true, true, true, false, false, false] rfl rfl (one_of HT_.out (by kernel_rfl)) (by decide) (fun K hK => ?_)
            refine goes_ Try.func12 (by kernel_rfl) rfl #[.int .i64 t186] (by rfl) rfl rfl (by (try simp only [List.map_toArray, List.map_cons, List.map_nil]); first | done | rfl | (simp only [List.length_drop, List.length_take]; rfl)) ?_
            with_reducible refine (garrisonlaw06_num.calls t186 t187 _ A34.out).mono ?_
            rintro e w' ⟨rfl, ⟨nd, rfl⟩⟩
            refine ⟨_, rfl, ?_⟩
            refine hK.out _ _ ⟨(blk_cell BK147.out 0).trans rfl, (blk_cell BK147.out 1).trans rfl, hHeld.2.2.1, hHeld.2.2.2.1, hHeld.2.2.2.2.1, hHeld.2.2.2.2.2⟩ (fun hHeld => ?_)
            clear hK K
            refine norm_ (a' := ?_) ?_ ?_
            rotate_left
            ·show Act.put _ (some 82) _ = _
             simp only [Act.put, List.setIfInBounds_toArray, List.set_cons_zero, List.set_cons_succ, i64_w, i32_w]
             rfl
            refine pure_ (i := 58) (N := some 83) (v := ?_) (a' := ?_) #[true, true, true, true, true, true, true, true, true, true, true, true, true, true, true, true, true, true, true, true, true, true, true, true, true, true, true, true, true, true, true, true, true, true, true, true, true, true, true, true, true, true, true, true, true, true, true, true, true, true, true, true, true, true, true, true, true, true, true, false, false] rfl rfl (any_of HT_.out (by kernel_rfl)) (fun _ _ _ h => h) (Or.inl ⟨by rfl, ?_⟩) ?_ ?_
            rotate_left
            ·intro w'
             go_simp
             with_reducible rfl
            rotate_left
            ·simp only [Act.put, List.setIfInBounds_toArray, List.set_cons_zero, List.set_cons_succ, i64_w, i32_w]
             rfl
            refine pure_ (i := 59) (N := some 84) (v := ?_) (a' := ?_) #[true, true, true, true, true, true, true, true, true, true, true, true, true, true, true, true, true, true, true, true, true, true, true, true, true, true, true, true, true, true, true, true, true, true, true, true, true, true, true, true, true, true, true, true, true, true, true, true, true, true, true, true, true, true, true, true, true, true, true, true, false] rfl rfl (any_of HT_.out (by kernel_rfl)) (fun _ _ _ h => h) (Or.inl ⟨by rfl, ?_⟩) ?_ ?_
            rotate_left
            ·intro w'
             go_simp
             with_reducible rfl
            rotate_left
            ·simp only [Act.put, List.setIfInBounds_toArray, List.set_cons_zero, List.set_cons_succ, i64_w, i32_w]
             rfl
            refine pure_ (i := 60) (N := some 0) (v := ?_) (a' := ?_) #[true, true, true, true, true, true, true, true, true, true, true, true, true, true, true, true, true, true, true, true, true, true, true, true, true, true, true, true, true, true, true, true, true, true, true, true, true, true, true, true, true, true, true, true, true, true, true, true, true, true, true, true, true, true, true, true, true, true, true, true, true] rfl rfl (any_of HT_.out (by kernel_rfl)) (fun _ _ _ h => h) (Or.inl ⟨by rfl, ?_⟩) ?_ ?_
            rotate_left
            ·intro w'
             go_simp
             with_reducible rfl
            rotate_left
            ·simp only [Act.put, List.setIfInBounds_toArray, List.set_cons_zero, List.set_cons_succ, i64_w, i32_w]
             rfl
            refine done_ (done_of HT_.out (by kernel_rfl)) ?_
            try go_wp2
            go_ret
            exact ⟨by first | rfl | (simp [errW_none, errW_some] <;> rfl) | (simp [*, errW_none, errW_some] <;> rfl), by repeat (first | (with_reducible first | exact HB.out | apply below_alloc | apply pw_below_drewN | apply below_drew1 | refine below_set ?_ GE147.out) | exact HB.out)⟩
           ·rw [if_neg c31] at H
            have c31b0 : ((t181.length : Int) == 3) = false := beq_eq_false_iff_ne.mpr c31
            have c31b1 : ((t181.length : Int) != 3) = true := bne_iff_ne.mpr c31
            exact absurd ((Option.some.inj H).trans hr_.out) (by decide)
          ·replace c28 := Bool.eq_false_iff.mpr c28
           subst c28
           have H1 : (some false) = some r := by rw [if_neg (show ¬ (false = true) by decide)] at H; exact H
           clear H
           have H := H1
           clear H1
           exact absurd ((Option.some.inj H).trans hr_.out) (by decide)
         ·rw [if_neg c26] at H
          exact absurd H (by simp)
        ·rw [if_neg c25] at H
         exact absurd H (by simp)
       ·replace c24 := Bool.eq_false_iff.mpr c24
        subst c24
        have H1 : (some false) = some r := by rw [if_neg (show ¬ (false = true) by decide)] at H; exact H
        clear H
        have H := H1
        clear H1
        exact absurd ((Option.some.inj H).trans hr_.out) (by decide)
      ·replace c22 := Bool.eq_false_iff.mpr c22
       subst c22
       have H1 : (some false) = some r := by rw [if_neg (show ¬ (false = true) by decide)] at H; exact H
       clear H
       have H := H1
       clear H1
       exact absurd ((Option.some.inj H).trans hr_.out) (by decide)
     ·rw [if_neg c20] at H
      have c20b0 : (t170 == 2) = false := beq_eq_false_iff_ne.mpr c20
      have c20b1 : (t170 != 2) = true := bne_iff_ne.mpr c20
      exact absurd ((Option.some.inj H).trans hr_.out) (by decide)
    ·rw [if_neg c18] at H
     have c18b0 : (t169 == 9) = false := beq_eq_false_iff_ne.mpr c18
     have c18b1 : (t169 != 9) = true := bne_iff_ne.mpr c18
     exact absurd ((Option.some.inj H).trans hr_.out) (by decide)
   ·rw [if_neg c16] at H
    have c16b0 : (t144 == t167 && (t145 == t168)) = false := by simpa using c16
    (try (have c16b1 : decide (t144 = t167 && (t145 == t168)) = false := by simpa using c16))
    (try (have c16b2 : (t144 == t167 && (t145 == t168)) = false := by simpa using c16))
    (try (have c16b3 : ¬ (t144 = t167 && (t145 == t168)) := by simpa using c16))
    clear c16
    exact absurd ((Option.some.inj H).trans hr_.out) (by decide)
  ·replace c14 := Bool.eq_false_iff.mpr c14
   subst c14
   have H1 : (some false) = some r := by rw [if_neg (show ¬ (false = true) by decide)] at H; exact H
   clear H
   have H := H1
   clear H1
   exact absurd ((Option.some.inj H).trans hr_.out) (by decide)
 ·rw [if_neg c10] at H
  have c10b0 : ((wrap64 (t157 + t158)) == 0) = false := beq_eq_false_iff_ne.mpr c10
  have c10b1 : ((wrap64 (t157 + t158)) != 0) = true := bne_iff_ne.mpr c10
  exact absurd ((Option.some.inj H).trans hr_.out) (by decide)

/-- live tells true. -/
def garrisonlaw06_live.f : Option Bool := some true
theorem garrisonlaw06_liveP.ok : garrisonlaw06_liveP.f 60 = some true := by
 decide +kernel
theorem garrisonlaw06_live.calls (r : Bool) (w : World) (h : garrisonlaw06_live.f = some r) : Calls Try.prog 19 #[] w fun e w' => e = .returned (.bool r) ∧ Below w.heap.size w w' := by
 obtain rfl := Option.some.inj h
 exact garrisonlaw06_liveP.calls 60 true w ⟨rfl⟩ garrisonlaw06_liveP.ok
end Go.Proofs.Ytcjipaemlipfgaa.Given
