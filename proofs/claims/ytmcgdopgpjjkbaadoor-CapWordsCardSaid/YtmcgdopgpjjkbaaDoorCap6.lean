/- The reference's texts. No walk. -/
import Derived.Test.YtmcgdopgpjjkbaaDoorCap2
import Derived.Test.YtmcgdopgpjjkbaaDoorPx7
namespace Go.Proofs.YtmcgdopgpjjkbaaDoor.Plain
open Go Go.RowKit Go.Proofs.YtmcgdopgpjjkbaaDoorW.PrintWords Go.Proofs.YtmcgdopgpjjkbaaDoorW.PrintLast Go.Proofs.YtmcgdopgpjjkbaaDoorW.PrintMore Go.Proofs.YtmcgdopgpjjkbaaDoor.P Go.Proofs.YtmcgdopgpjjkbaaDoor.Given

theorem dig_eq (n : Int) (h0 : 0 ≤ n) (h1 : n ≤ 65535) : garrisonref03_Digits.f n = some (itoS n) := by
  unfold garrisonref03_Digits.f digS itoS Lib.itoa
  rw [if_pos h1, if_neg (by omega)]
theorem refName_eq (t : Int) (h1 : 1 ≤ t) (h5 : t ≤ 5) : rdOf ByteArray.empty ([(⟨#[]⟩ : ByteArray), (⟨#[117, 110, 116, 121, 112, 101, 100]⟩ : ByteArray), (⟨#[110, 111, 100, 101]⟩ : ByteArray), (⟨#[102, 114, 97, 109, 101]⟩ : ByteArray), (⟨#[101, 110, 100, 112, 111, 105, 110, 116]⟩ : ByteArray), (⟨#[110, 111, 116, 105, 99, 101]⟩ : ByteArray)] : List ByteArray) t = rdOf ByteArray.empty nameS t := by
  obtain rfl | rfl | rfl | rfl | rfl : t = 1 ∨ t = 2 ∨ t = 3 ∨ t = 4 ∨ t = 5 := by omega
  all_goals rfl
theorem refText_eq (t r b o g : Int) : garrisonref03_Text.f t r b o g = some (textS t r b o g) := by
  unfold garrisonref03_Text.f textS
  rw [refIs_eq, Option.bind_some]
  by_cases h : capOk t r b o g = true
  · rw [if_pos h, if_pos h]
    by_cases h0 : t = 0
    · rw [if_pos h0, if_pos h0]
    · obtain ⟨b0, b1, b2, b3, b4⟩ := capOk_bounds h
      rw [if_neg h0, if_neg h0, Option.bind_some, if_pos b0.1, if_pos (by show t < 6; omega), refName_eq t (by omega) b0.2, dig_eq o b3.1 (by omega), dig_eq g b4.1 (by omega), dig_eq b b2.1 b2.2]
      have sn := name_size t
      have so := itoS_size o (by omega) (by omega)
      have sg := itoS_size g (by omega) (by omega)
      have sb := itoS_size b (by omega) (by omega)
      have sr := rightsS_size r
      unfold textA
      generalize rdOf ByteArray.empty nameS t = nm at *
      generalize itoS o = O at *
      generalize itoS g = G at *
      generalize itoS b = B at *
      unfold garrisonref02_Text.f
      generalize rightsS r = R at *
      simp only [Option.bind_some, ByteArray.size_append, sz32, sz46]
      rw [if_pos (by omega), if_pos (by omega), if_pos (by omega), if_pos (by omega), if_pos (by omega), if_pos (by omega)]
      by_cases hb : b = 0
      · rw [if_pos hb, if_pos hb]
        simp only [ByteArray.append_assoc]
      · rw [if_neg hb, if_neg hb, if_pos (by omega), if_pos (by omega)]
        simp only [ByteArray.append_assoc]
  · rw [if_neg h, if_neg h]
end Go.Proofs.YtmcgdopgpjjkbaaDoor.Plain
