-- Written by this session's own program (wip/prog/drive.py).
import Derived.Test.YtmjfjjnoconmoaaPDx0
import Derived.Test.YtmjfjjnoconmoaaPDx1
import Derived.Test.YtmjfjjnoconmoaaPDx2
import Derived.Test.YtmjfjjnoconmoaaPDx3
namespace Go.Proofs.Ytmjfjjnoconmoaa.PD
open Go.RowKit Go.Proofs.YtmjfjjnoconmoaaW.PrintWords Go.Proofs.YtmjfjjnoconmoaaW.PrintLast Go.Proofs.YtmjfjjnoconmoaaW.PrintMore Go.Proofs.YtmjfjjnoconmoaaX
attribute [local go_sem] max2_int min2_int max_two min_two max_three min_three max_four min_four   -- for this text's walks alone
set_option linter.unusedVariables false
set_option linter.unusedSimpArgs false

/-! ### L04_CodecExact: function 9 -/
mutual
def L04_CodecExact.j0 : Nat → List Int → Int → Int → Int → List Int → Bool → Option (Bool)
  | 0, _, _, _, _, _, _ => none
  | k + 1, x0, x1, x2, x3, x4, x38 => if x38 = true then (some true) else ((bk_Twin.f x0).bind fun t853 => ((bk_TwinInts.f x4).bind fun t856 => ((codec_Put.f k t853 x1 x2).bind fun bt859 => ((codec_Get.f k t853 x3 x1).bind fun bt863 => ((codec_PutList.f k t853 t856).bind fun bt866 => ((codec_GetList.f k t853 x3).bind fun bt870 => ((bk_Bytes.f k t853 x0).bind fun t875 => (if t875 = true then ((bk_Ints.f k t856 x4).bind fun t876 => (L04_CodecExact.j1 k x0 x1 x2 x3 x4 bt859.1 bt859.2 bt863.1 bt863.2.1 bt863.2.2 bt866.1 bt866.2 bt870.1 bt870.2.1 bt870.2.2 (!t876))) else (L04_CodecExact.j1 k x0 x1 x2 x3 x4 bt859.1 bt859.2 bt863.1 bt863.2.1 bt863.2.2 bt866.1 bt866.2 bt870.1 bt870.2.1 bt870.2.2 true)))))))))
def L04_CodecExact.j1 : Nat → List Int → Int → Int → Int → List Int → List Int → Int → Int → Int → Int → List Int → Int → List Int → Int → Int → Bool → Option (Bool)
  | 0, _, _, _, _, _, _, _, _, _, _, _, _, _, _, _, _ => none
  | k + 1, x0, x1, x2, x3, x4, x13, x14, x15, x16, x17, x18, x19, x20, x21, x22, x80 => if x80 = true then (some false) else ((ref01_Size.f x1).bind fun t877 => (if t877 = true then ((ref01_Fits.f x1 x2).bind fun t878 => (L04_CodecExact.j2 k x0 x1 x2 x3 x4 x13 x14 x15 x16 x17 x18 x19 x20 x21 x22 (!t878))) else (L04_CodecExact.j2 k x0 x1 x2 x3 x4 x13 x14 x15 x16 x17 x18 x19 x20 x21 x22 true)))
def L04_CodecExact.j2 : Nat → List Int → Int → Int → Int → List Int → List Int → Int → Int → Int → Int → List Int → Int → List Int → Int → Int → Bool → Option (Bool)
  | 0, _, _, _, _, _, _, _, _, _, _, _, _, _, _, _, _ => none
  | k + 1, x0, x1, x2, x3, x4, x13, x14, x15, x16, x17, x18, x19, x20, x21, x22, x89 => if x89 = true then (if x14 = 1 then (if (x13.length : Int) > 0 then (some false) else (L04_CodecExact.j3 k x0 x1 x3 x4 x15 x16 x17 x18 x19 x20 x21 x22)) else (some false)) else (if x14 = 0 then ((bk_Twin.f x0).bind fun t879 => ((ref01_Bytes.f k x1 x2).bind fun t882 => (if t879.length + t882.length < 140737488355328 then ((bk_Bytes.f k x13 (t879 ++ t882)).bind fun t888 => (if t888 = true then (L04_CodecExact.j3 k x0 x1 x3 x4 x15 x16 x17 x18 x19 x20 x21 x22) else (some false))) else (none)))) else (some false))
def L04_CodecExact.j3 : Nat → List Int → Int → Int → List Int → Int → Int → Int → List Int → Int → List Int → Int → Int → Option (Bool)
  | 0, _, _, _, _, _, _, _, _, _, _, _, _ => none
  | k + 1, x0, x1, x3, x4, x15, x16, x17, x18, x19, x20, x21, x22 => (ref01_Size.f x1).bind fun t889 => (if t889 = true then ((ref01_Here.f x0 x3 x1).bind fun t890 => (if t890 = true then (if 0 ≤ x3 then (if x3 ≤ (wrap64 (x3 + x1)) then (if (wrap64 (x3 + x1)) ≤ (x0.length : Int) then ((ref01_Number.f k ((x0.take ((wrap64 (x3 + x1)) : Int).toNat).drop (x3 : Int).toNat)).bind fun bt895 => (if bt895.2 = true then (L04_CodecExact.j4 k x0 x3 x4 x15 x16 x17 x18 x19 x20 x21 x22 bt895.1 0 (wrap64 (x3 + x1))) else (L04_CodecExact.j4 k x0 x3 x4 x15 x16 x17 x18 x19 x20 x21 x22 0 1 0))) else (none)) else (none)) else (none)) else (L04_CodecExact.j4 k x0 x3 x4 x15 x16 x17 x18 x19 x20 x21 x22 0 2 0))) else (L04_CodecExact.j4 k x0 x3 x4 x15 x16 x17 x18 x19 x20 x21 x22 0 1 0))
def L04_CodecExact.j4 : Nat → List Int → Int → List Int → Int → Int → Int → List Int → Int → List Int → Int → Int → Int → Int → Int → Option (Bool)
  | 0, _, _, _, _, _, _, _, _, _, _, _, _, _, _ => none
  | k + 1, x0, x3, x4, x15, x16, x17, x18, x19, x20, x21, x22, x23, x24, x25 => if x17 = x24 then (if x15 = x23 then (L04_CodecExact.j5 k x0 x3 x4 x18 x19 x20 x21 x22 (x16 != x25)) else (L04_CodecExact.j5 k x0 x3 x4 x18 x19 x20 x21 x22 true)) else (L04_CodecExact.j5 k x0 x3 x4 x18 x19 x20 x21 x22 true)
def L04_CodecExact.j5 : Nat → List Int → Int → List Int → List Int → Int → List Int → Int → Int → Bool → Option (Bool)
  | 0, _, _, _, _, _, _, _, _, _ => none
  | k + 1, x0, x3, x4, x18, x19, x20, x21, x22, x147 => if x147 = true then (some false) else ((bk_Twin.f x0).bind fun t897 => (if t897.length < 140737488355328 then (L04_CodecExact.l0 k x0 x3 x4 x18 x19 x20 x21 x22 0 (t897 ++ [(x4.length : Int) % 256]) 0) else (none)))
def L04_CodecExact.l0 : Nat → List Int → Int → List Int → List Int → Int → List Int → Int → Int → Int → List Int → Int → Option (Bool)
  | 0, _, _, _, _, _, _, _, _, _, _, _ => none
  | k + 1, x0, x3, x4, x18, x19, x20, x21, x22, x24, x28, x29 => if x29 < (x4.length : Int) then (if 0 ≤ x29 then (if x28.length < 140737488355328 then ((some (x28 ++ [(rd x4 x29) % 256] : List Int)).bind fun y904 => ((ref01_In.f (rd x4 x29) 0 255).bind fun t908 => (if t908 = true then (L04_CodecExact.l0 k x0 x3 x4 x18 x19 x20 x21 x22 x24 y904 (wrap64 (x29 + 1))) else (L04_CodecExact.l0 k x0 x3 x4 x18 x19 x20 x21 x22 1 y904 (wrap64 (x29 + 1)))))) else (none)) else (none)) else (if (x4.length : Int) > 255 then (L04_CodecExact.j7 k x0 x3 x18 x19 x20 x21 x22 2 x28) else (L04_CodecExact.j7 k x0 x3 x18 x19 x20 x21 x22 x24 x28))
def L04_CodecExact.j7 : Nat → List Int → Int → List Int → Int → List Int → Int → Int → Int → List Int → Option (Bool)
  | 0, _, _, _, _, _, _, _, _, _ => none
  | k + 1, x0, x3, x18, x19, x20, x21, x22, x24, x28 => if x19 = x24 then (if x24 = 0 then ((bk_Bytes.f k x18 x28).bind fun t909 => (if t909 = true then (L04_CodecExact.j8 k x0 x3 x20 x21 x22 false) else (L04_CodecExact.j8 k x0 x3 x20 x21 x22 true))) else (L04_CodecExact.j8 k x0 x3 x20 x21 x22 (decide ((x18.length : Int) > 0)))) else (L04_CodecExact.j8 k x0 x3 x20 x21 x22 true)
def L04_CodecExact.j8 : Nat → List Int → Int → List Int → Int → Int → Bool → Option (Bool)
  | 0, _, _, _, _, _, _ => none
  | k + 1, x0, x3, x20, x21, x22, x200 => if x200 = true then (some false) else (if x3 < 0 then (L04_CodecExact.j9 k x0 x3 x20 x21 x22 true) else (if x3 ≥ (x0.length : Int) then (L04_CodecExact.j9 k x0 x3 x20 x21 x22 true) else (if 0 ≤ x3 then (if x3 < (x0.length : Int) then ((ref01_Here.f x0 (wrap64 (x3 + 1)) (wrap64 (rd x0 x3))).bind fun t911 => (L04_CodecExact.j9 k x0 x3 x20 x21 x22 (!t911))) else (none)) else (none))))
def L04_CodecExact.j9 : Nat → List Int → Int → List Int → Int → Int → Bool → Option (Bool)
  | 0, _, _, _, _, _, _ => none
  | k + 1, x0, x3, x20, x21, x22, x220 => if x220 = true then (if x22 = 2 then (if (wrap64 ((x20.length : Int) + x21)) = 0 then ((L04_wakes.f k).bind fun t912 => (some t912)) else (some false)) else (some false)) else (if x22 = 0 then (if 0 ≤ x3 then (if x3 < (x0.length : Int) then (if x21 = (wrap64 ((wrap64 (x3 + 1)) + (wrap64 (rd x0 x3)))) then (L04_CodecExact.j10 k x0 x3 x20 ((x20.length : Int) != (wrap64 (rd x0 x3)))) else (L04_CodecExact.j10 k x0 x3 x20 true)) else (none)) else (none)) else (L04_CodecExact.j10 k x0 x3 x20 true))
def L04_CodecExact.j10 : Nat → List Int → Int → List Int → Bool → Option (Bool)
  | 0, _, _, _, _ => none
  | k + 1, x0, x3, x20, x256 => if x256 = true then (some false) else (L04_CodecExact.l1 k x0 x3 x20 0)
def L04_CodecExact.l1 : Nat → List Int → Int → List Int → Int → Option (Bool)
  | 0, _, _, _, _ => none
  | k + 1, x0, x3, x20, x30 => if x30 < (x20.length : Int) then (if 0 ≤ x30 then (if 0 ≤ (wrap64 ((wrap64 (x3 + 1)) + x30)) then (if (wrap64 ((wrap64 (x3 + 1)) + x30)) < (x0.length : Int) then (if (rd x20 x30) = (wrap64 (rd x0 (wrap64 ((wrap64 (x3 + 1)) + x30)))) then (L04_CodecExact.l1 k x0 x3 x20 (wrap64 (x30 + 1))) else (some false)) else (none)) else (none)) else (none)) else ((L04_wakes.f k).bind fun t917 => (some t917))
end
def L04_CodecExact.f (k : Nat) (l0 : List Int) (a1 : Int) (a2 : Int) (a3 : Int) (l4 : List Int) : Option (Bool) := if (l0.length : Int) > 600 then (L04_CodecExact.j0 k l0 a1 a2 a3 l4 true) else (L04_CodecExact.j0 k l0 a1 a2 a3 l4 (decide ((l4.length : Int) > 300)))
theorem L04_CodecExact.mono_l : ∀ k, (∀ y0 y1 y2 y3 y4 y5, LeO (L04_CodecExact.j0 k y0 y1 y2 y3 y4 y5) (L04_CodecExact.j0 (k + 1) y0 y1 y2 y3 y4 y5)) ∧ (∀ y0 y1 y2 y3 y4 y5 y6 y7 y8 y9 y10 y11 y12 y13 y14 y15, LeO (L04_CodecExact.j1 k y0 y1 y2 y3 y4 y5 y6 y7 y8 y9 y10 y11 y12 y13 y14 y15) (L04_CodecExact.j1 (k + 1) y0 y1 y2 y3 y4 y5 y6 y7 y8 y9 y10 y11 y12 y13 y14 y15)) ∧ (∀ y0 y1 y2 y3 y4 y5 y6 y7 y8 y9 y10 y11 y12 y13 y14 y15, LeO (L04_CodecExact.j2 k y0 y1 y2 y3 y4 y5 y6 y7 y8 y9 y10 y11 y12 y13 y14 y15) (L04_CodecExact.j2 (k + 1) y0 y1 y2 y3 y4 y5 y6 y7 y8 y9 y10 y11 y12 y13 y14 y15)) ∧ (∀ y0 y1 y2 y3 y4 y5 y6 y7 y8 y9 y10 y11, LeO (L04_CodecExact.j3 k y0 y1 y2 y3 y4 y5 y6 y7 y8 y9 y10 y11) (L04_CodecExact.j3 (k + 1) y0 y1 y2 y3 y4 y5 y6 y7 y8 y9 y10 y11)) ∧ (∀ y0 y1 y2 y3 y4 y5 y6 y7 y8 y9 y10 y11 y12 y13, LeO (L04_CodecExact.j4 k y0 y1 y2 y3 y4 y5 y6 y7 y8 y9 y10 y11 y12 y13) (L04_CodecExact.j4 (k + 1) y0 y1 y2 y3 y4 y5 y6 y7 y8 y9 y10 y11 y12 y13)) ∧ (∀ y0 y1 y2 y3 y4 y5 y6 y7 y8, LeO (L04_CodecExact.j5 k y0 y1 y2 y3 y4 y5 y6 y7 y8) (L04_CodecExact.j5 (k + 1) y0 y1 y2 y3 y4 y5 y6 y7 y8)) ∧ (∀ y0 y1 y2 y3 y4 y5 y6 y7 y8 y9 y10, LeO (L04_CodecExact.l0 k y0 y1 y2 y3 y4 y5 y6 y7 y8 y9 y10) (L04_CodecExact.l0 (k + 1) y0 y1 y2 y3 y4 y5 y6 y7 y8 y9 y10)) ∧ (∀ y0 y1 y2 y3 y4 y5 y6 y7 y8, LeO (L04_CodecExact.j7 k y0 y1 y2 y3 y4 y5 y6 y7 y8) (L04_CodecExact.j7 (k + 1) y0 y1 y2 y3 y4 y5 y6 y7 y8)) ∧ (∀ y0 y1 y2 y3 y4 y5, LeO (L04_CodecExact.j8 k y0 y1 y2 y3 y4 y5) (L04_CodecExact.j8 (k + 1) y0 y1 y2 y3 y4 y5)) ∧ (∀ y0 y1 y2 y3 y4 y5, LeO (L04_CodecExact.j9 k y0 y1 y2 y3 y4 y5) (L04_CodecExact.j9 (k + 1) y0 y1 y2 y3 y4 y5)) ∧ (∀ y0 y1 y2 y3, LeO (L04_CodecExact.j10 k y0 y1 y2 y3) (L04_CodecExact.j10 (k + 1) y0 y1 y2 y3)) ∧ (∀ y0 y1 y2 y3, LeO (L04_CodecExact.l1 k y0 y1 y2 y3) (L04_CodecExact.l1 (k + 1) y0 y1 y2 y3))
  | 0 => ⟨fun _ _ _ _ _ _ r h => by simp [L04_CodecExact.j0] at h, fun _ _ _ _ _ _ _ _ _ _ _ _ _ _ _ _ r h => by simp [L04_CodecExact.j1] at h, fun _ _ _ _ _ _ _ _ _ _ _ _ _ _ _ _ r h => by simp [L04_CodecExact.j2] at h, fun _ _ _ _ _ _ _ _ _ _ _ _ r h => by simp [L04_CodecExact.j3] at h, fun _ _ _ _ _ _ _ _ _ _ _ _ _ _ r h => by simp [L04_CodecExact.j4] at h, fun _ _ _ _ _ _ _ _ _ r h => by simp [L04_CodecExact.j5] at h, fun _ _ _ _ _ _ _ _ _ _ _ r h => by simp [L04_CodecExact.l0] at h, fun _ _ _ _ _ _ _ _ _ r h => by simp [L04_CodecExact.j7] at h, fun _ _ _ _ _ _ r h => by simp [L04_CodecExact.j8] at h, fun _ _ _ _ _ _ r h => by simp [L04_CodecExact.j9] at h, fun _ _ _ _ r h => by simp [L04_CodecExact.j10] at h, fun _ _ _ _ r h => by simp [L04_CodecExact.l1] at h⟩
  | k + 1 => by
    obtain ⟨ih0, ih1, ih2, ih3, ih4, ih5, ih6, ih7, ih8, ih9, ih10, ih11⟩ := L04_CodecExact.mono_l k
    refine ⟨?_, ?_, ?_, ?_, ?_, ?_, ?_, ?_, ?_, ?_, ?_, ?_⟩
    · intro y0 y1 y2 y3 y4 y5
      unfold L04_CodecExact.j0
      repeat' first
      | (with_reducible exact ih0 _ _ _ _ _ _)
      | (with_reducible exact ih1 _ _ _ _ _ _ _ _ _ _ _ _ _ _ _ _)
      | (with_reducible exact ih2 _ _ _ _ _ _ _ _ _ _ _ _ _ _ _ _)
      | (with_reducible exact ih3 _ _ _ _ _ _ _ _ _ _ _ _)
      | (with_reducible exact ih4 _ _ _ _ _ _ _ _ _ _ _ _ _ _)
      | (with_reducible exact ih5 _ _ _ _ _ _ _ _ _)
      | (with_reducible exact ih6 _ _ _ _ _ _ _ _ _ _ _)
      | (with_reducible exact ih7 _ _ _ _ _ _ _ _ _)
      | (with_reducible exact ih8 _ _ _ _ _ _)
      | (with_reducible exact ih9 _ _ _ _ _ _)
      | (with_reducible exact ih10 _ _ _ _)
      | (with_reducible exact ih11 _ _ _ _)
      | (with_reducible exact L04_wakes.mono _)
      | (with_reducible exact bk_Bytes.mono _ _ _)
      | (with_reducible exact bk_Ints.mono _ _ _)
      | (with_reducible exact codec_Get.mono _ _ _ _)
      | (with_reducible exact codec_GetList.mono _ _ _)
      | (with_reducible exact codec_Put.mono _ _ _ _)
      | (with_reducible exact codec_PutList.mono _ _ _)
      | (with_reducible exact ref01_Bytes.mono _ _ _)
      | (with_reducible exact ref01_Number.mono _ _)
      | (with_reducible exact LeO.refl _)
      | (with_reducible exact LeO.none _)
      | (with_reducible refine LeO.ite ?_ ?_)
      | (with_reducible refine LeO.bind ?_ (fun _ => ?_))
      | exact ih0 _ _ _ _ _ _
      | exact ih1 _ _ _ _ _ _ _ _ _ _ _ _ _ _ _ _
      | exact ih2 _ _ _ _ _ _ _ _ _ _ _ _ _ _ _ _
      | exact ih3 _ _ _ _ _ _ _ _ _ _ _ _
      | exact ih4 _ _ _ _ _ _ _ _ _ _ _ _ _ _
      | exact ih5 _ _ _ _ _ _ _ _ _
      | exact ih6 _ _ _ _ _ _ _ _ _ _ _
      | exact ih7 _ _ _ _ _ _ _ _ _
      | exact ih8 _ _ _ _ _ _
      | exact ih9 _ _ _ _ _ _
      | exact ih10 _ _ _ _
      | exact ih11 _ _ _ _
      | exact L04_wakes.mono _
      | exact bk_Bytes.mono _ _ _
      | exact bk_Ints.mono _ _ _
      | exact codec_Get.mono _ _ _ _
      | exact codec_GetList.mono _ _ _
      | exact codec_Put.mono _ _ _ _
      | exact codec_PutList.mono _ _ _
      | exact ref01_Bytes.mono _ _ _
      | exact ref01_Number.mono _ _
      | exact LeO.none _
      | refine LeO.ite ?_ ?_
      | refine LeO.bind ?_ (fun _ => ?_)
    · intro y0 y1 y2 y3 y4 y5 y6 y7 y8 y9 y10 y11 y12 y13 y14 y15
      unfold L04_CodecExact.j1
      repeat' first
      | (with_reducible exact ih0 _ _ _ _ _ _)
      | (with_reducible exact ih1 _ _ _ _ _ _ _ _ _ _ _ _ _ _ _ _)
      | (with_reducible exact ih2 _ _ _ _ _ _ _ _ _ _ _ _ _ _ _ _)
      | (with_reducible exact ih3 _ _ _ _ _ _ _ _ _ _ _ _)
      | (with_reducible exact ih4 _ _ _ _ _ _ _ _ _ _ _ _ _ _)
      | (with_reducible exact ih5 _ _ _ _ _ _ _ _ _)
      | (with_reducible exact ih6 _ _ _ _ _ _ _ _ _ _ _)
      | (with_reducible exact ih7 _ _ _ _ _ _ _ _ _)
      | (with_reducible exact ih8 _ _ _ _ _ _)
      | (with_reducible exact ih9 _ _ _ _ _ _)
      | (with_reducible exact ih10 _ _ _ _)
      | (with_reducible exact ih11 _ _ _ _)
      | (with_reducible exact L04_wakes.mono _)
      | (with_reducible exact bk_Bytes.mono _ _ _)
      | (with_reducible exact bk_Ints.mono _ _ _)
      | (with_reducible exact codec_Get.mono _ _ _ _)
      | (with_reducible exact codec_GetList.mono _ _ _)
      | (with_reducible exact codec_Put.mono _ _ _ _)
      | (with_reducible exact codec_PutList.mono _ _ _)
      | (with_reducible exact ref01_Bytes.mono _ _ _)
      | (with_reducible exact ref01_Number.mono _ _)
      | (with_reducible exact LeO.refl _)
      | (with_reducible exact LeO.none _)
      | (with_reducible refine LeO.ite ?_ ?_)
      | (with_reducible refine LeO.bind ?_ (fun _ => ?_))
      | exact ih0 _ _ _ _ _ _
      | exact ih1 _ _ _ _ _ _ _ _ _ _ _ _ _ _ _ _
      | exact ih2 _ _ _ _ _ _ _ _ _ _ _ _ _ _ _ _
      | exact ih3 _ _ _ _ _ _ _ _ _ _ _ _
      | exact ih4 _ _ _ _ _ _ _ _ _ _ _ _ _ _
      | exact ih5 _ _ _ _ _ _ _ _ _
      | exact ih6 _ _ _ _ _ _ _ _ _ _ _
      | exact ih7 _ _ _ _ _ _ _ _ _
      | exact ih8 _ _ _ _ _ _
      | exact ih9 _ _ _ _ _ _
      | exact ih10 _ _ _ _
      | exact ih11 _ _ _ _
      | exact L04_wakes.mono _
      | exact bk_Bytes.mono _ _ _
      | exact bk_Ints.mono _ _ _
      | exact codec_Get.mono _ _ _ _
      | exact codec_GetList.mono _ _ _
      | exact codec_Put.mono _ _ _ _
      | exact codec_PutList.mono _ _ _
      | exact ref01_Bytes.mono _ _ _
      | exact ref01_Number.mono _ _
      | exact LeO.none _
      | refine LeO.ite ?_ ?_
      | refine LeO.bind ?_ (fun _ => ?_)
    · intro y0 y1 y2 y3 y4 y5 y6 y7 y8 y9 y10 y11 y12 y13 y14 y15
      unfold L04_CodecExact.j2
      repeat' first
      | (with_reducible exact ih0 _ _ _ _ _ _)
      | (with_reducible exact ih1 _ _ _ _ _ _ _ _ _ _ _ _ _ _ _ _)
      | (with_reducible exact ih2 _ _ _ _ _ _ _ _ _ _ _ _ _ _ _ _)
      | (with_reducible exact ih3 _ _ _ _ _ _ _ _ _ _ _ _)
      | (with_reducible exact ih4 _ _ _ _ _ _ _ _ _ _ _ _ _ _)
      | (with_reducible exact ih5 _ _ _ _ _ _ _ _ _)
      | (with_reducible exact ih6 _ _ _ _ _ _ _ _ _ _ _)
      | (with_reducible exact ih7 _ _ _ _ _ _ _ _ _)
      | (with_reducible exact ih8 _ _ _ _ _ _)
      | (with_reducible exact ih9 _ _ _ _ _ _)
      | (with_reducible exact ih10 _ _ _ _)
      | (with_reducible exact ih11 _ _ _ _)
      | (with_reducible exact L04_wakes.mono _)
      | (with_reducible exact bk_Bytes.mono _ _ _)
      | (with_reducible exact bk_Ints.mono _ _ _)
      | (with_reducible exact codec_Get.mono _ _ _ _)
      | (with_reducible exact codec_GetList.mono _ _ _)
      | (with_reducible exact codec_Put.mono _ _ _ _)
      | (with_reducible exact codec_PutList.mono _ _ _)
      | (with_reducible exact ref01_Bytes.mono _ _ _)
      | (with_reducible exact ref01_Number.mono _ _)
      | (with_reducible exact LeO.refl _)
      | (with_reducible exact LeO.none _)
      | (with_reducible refine LeO.ite ?_ ?_)
      | (with_reducible refine LeO.bind ?_ (fun _ => ?_))
      | exact ih0 _ _ _ _ _ _
      | exact ih1 _ _ _ _ _ _ _ _ _ _ _ _ _ _ _ _
      | exact ih2 _ _ _ _ _ _ _ _ _ _ _ _ _ _ _ _
      | exact ih3 _ _ _ _ _ _ _ _ _ _ _ _
      | exact ih4 _ _ _ _ _ _ _ _ _ _ _ _ _ _
      | exact ih5 _ _ _ _ _ _ _ _ _
      | exact ih6 _ _ _ _ _ _ _ _ _ _ _
      | exact ih7 _ _ _ _ _ _ _ _ _
      | exact ih8 _ _ _ _ _ _
      | exact ih9 _ _ _ _ _ _
      | exact ih10 _ _ _ _
      | exact ih11 _ _ _ _
      | exact L04_wakes.mono _
      | exact bk_Bytes.mono _ _ _
      | exact bk_Ints.mono _ _ _
      | exact codec_Get.mono _ _ _ _
      | exact codec_GetList.mono _ _ _
      | exact codec_Put.mono _ _ _ _
      | exact codec_PutList.mono _ _ _
      | exact ref01_Bytes.mono _ _ _
      | exact ref01_Number.mono _ _
      | exact LeO.none _
      | refine LeO.ite ?_ ?_
      | refine LeO.bind ?_ (fun _ => ?_)
    · intro y0 y1 y2 y3 y4 y5 y6 y7 y8 y9 y10 y11
      unfold L04_CodecExact.j3
      repeat' first
      | (with_reducible exact ih0 _ _ _ _ _ _)
      | (with_reducible exact ih1 _ _ _ _ _ _ _ _ _ _ _ _ _ _ _ _)
      | (with_reducible exact ih2 _ _ _ _ _ _ _ _ _ _ _ _ _ _ _ _)
      | (with_reducible exact ih3 _ _ _ _ _ _ _ _ _ _ _ _)
      | (with_reducible exact ih4 _ _ _ _ _ _ _ _ _ _ _ _ _ _)
      | (with_reducible exact ih5 _ _ _ _ _ _ _ _ _)
      | (with_reducible exact ih6 _ _ _ _ _ _ _ _ _ _ _)
      | (with_reducible exact ih7 _ _ _ _ _ _ _ _ _)
      | (with_reducible exact ih8 _ _ _ _ _ _)
      | (with_reducible exact ih9 _ _ _ _ _ _)
      | (with_reducible exact ih10 _ _ _ _)
      | (with_reducible exact ih11 _ _ _ _)
      | (with_reducible exact L04_wakes.mono _)
      | (with_reducible exact bk_Bytes.mono _ _ _)
      | (with_reducible exact bk_Ints.mono _ _ _)
      | (with_reducible exact codec_Get.mono _ _ _ _)
      | (with_reducible exact codec_GetList.mono _ _ _)
      | (with_reducible exact codec_Put.mono _ _ _ _)
      | (with_reducible exact codec_PutList.mono _ _ _)
      | (with_reducible exact ref01_Bytes.mono _ _ _)
      | (with_reducible exact ref01_Number.mono _ _)
      | (with_reducible exact LeO.refl _)
      | (with_reducible exact LeO.none _)
      | (with_reducible refine LeO.ite ?_ ?_)
      | (with_reducible refine LeO.bind ?_ (fun _ => ?_))
      | exact ih0 _ _ _ _ _ _
      | exact ih1 _ _ _ _ _ _ _ _ _ _ _ _ _ _ _ _
      | exact ih2 _ _ _ _ _ _ _ _ _ _ _ _ _ _ _ _
      | exact ih3 _ _ _ _ _ _ _ _ _ _ _ _
      | exact ih4 _ _ _ _ _ _ _ _ _ _ _ _ _ _
      | exact ih5 _ _ _ _ _ _ _ _ _
      | exact ih6 _ _ _ _ _ _ _ _ _ _ _
      | exact ih7 _ _ _ _ _ _ _ _ _
      | exact ih8 _ _ _ _ _ _
      | exact ih9 _ _ _ _ _ _
      | exact ih10 _ _ _ _
      | exact ih11 _ _ _ _
      | exact L04_wakes.mono _
      | exact bk_Bytes.mono _ _ _
      | exact bk_Ints.mono _ _ _
      | exact codec_Get.mono _ _ _ _
      | exact codec_GetList.mono _ _ _
      | exact codec_Put.mono _ _ _ _
      | exact codec_PutList.mono _ _ _
      | exact ref01_Bytes.mono _ _ _
      | exact ref01_Number.mono _ _
      | exact LeO.none _
      | refine LeO.ite ?_ ?_
      | refine LeO.bind ?_ (fun _ => ?_)
    · intro y0 y1 y2 y3 y4 y5 y6 y7 y8 y9 y10 y11 y12 y13
      unfold L04_CodecExact.j4
      repeat' first
      | (with_reducible exact ih0 _ _ _ _ _ _)
      | (with_reducible exact ih1 _ _ _ _ _ _ _ _ _ _ _ _ _ _ _ _)
      | (with_reducible exact ih2 _ _ _ _ _ _ _ _ _ _ _ _ _ _ _ _)
      | (with_reducible exact ih3 _ _ _ _ _ _ _ _ _ _ _ _)
      | (with_reducible exact ih4 _ _ _ _ _ _ _ _ _ _ _ _ _ _)
      | (with_reducible exact ih5 _ _ _ _ _ _ _ _ _)
      | (with_reducible exact ih6 _ _ _ _ _ _ _ _ _ _ _)
      | (with_reducible exact ih7 _ _ _ _ _ _ _ _ _)
      | (with_reducible exact ih8 _ _ _ _ _ _)
      | (with_reducible exact ih9 _ _ _ _ _ _)
      | (with_reducible exact ih10 _ _ _ _)
      | (with_reducible exact ih11 _ _ _ _)
      | (with_reducible exact L04_wakes.mono _)
      | (with_reducible exact bk_Bytes.mono _ _ _)
      | (with_reducible exact bk_Ints.mono _ _ _)
      | (with_reducible exact codec_Get.mono _ _ _ _)
      | (with_reducible exact codec_GetList.mono _ _ _)
      | (with_reducible exact codec_Put.mono _ _ _ _)
      | (with_reducible exact codec_PutList.mono _ _ _)
      | (with_reducible exact ref01_Bytes.mono _ _ _)
      | (with_reducible exact ref01_Number.mono _ _)
      | (with_reducible exact LeO.refl _)
      | (with_reducible exact LeO.none _)
      | (with_reducible refine LeO.ite ?_ ?_)
      | (with_reducible refine LeO.bind ?_ (fun _ => ?_))
      | exact ih0 _ _ _ _ _ _
      | exact ih1 _ _ _ _ _ _ _ _ _ _ _ _ _ _ _ _
      | exact ih2 _ _ _ _ _ _ _ _ _ _ _ _ _ _ _ _
      | exact ih3 _ _ _ _ _ _ _ _ _ _ _ _
      | exact ih4 _ _ _ _ _ _ _ _ _ _ _ _ _ _
      | exact ih5 _ _ _ _ _ _ _ _ _
      | exact ih6 _ _ _ _ _ _ _ _ _ _ _
      | exact ih7 _ _ _ _ _ _ _ _ _
      | exact ih8 _ _ _ _ _ _
      | exact ih9 _ _ _ _ _ _
      | exact ih10 _ _ _ _
      | exact ih11 _ _ _ _
      | exact L04_wakes.mono _
      | exact bk_Bytes.mono _ _ _
      | exact bk_Ints.mono _ _ _
      | exact codec_Get.mono _ _ _ _
      | exact codec_GetList.mono _ _ _
      | exact codec_Put.mono _ _ _ _
      | exact codec_PutList.mono _ _ _
      | exact ref01_Bytes.mono _ _ _
      | exact ref01_Number.mono _ _
      | exact LeO.none _
      | refine LeO.ite ?_ ?_
      | refine LeO.bind ?_ (fun _ => ?_)
    · intro y0 y1 y2 y3 y4 y5 y6 y7 y8
      unfold L04_CodecExact.j5
      repeat' first
      | (with_reducible exact ih0 _ _ _ _ _ _)
      | (with_reducible exact ih1 _ _ _ _ _ _ _ _ _ _ _ _ _ _ _ _)
      | (with_reducible exact ih2 _ _ _ _ _ _ _ _ _ _ _ _ _ _ _ _)
      | (with_reducible exact ih3 _ _ _ _ _ _ _ _ _ _ _ _)
      | (with_reducible exact ih4 _ _ _ _ _ _ _ _ _ _ _ _ _ _)
      | (with_reducible exact ih5 _ _ _ _ _ _ _ _ _)
      | (with_reducible exact ih6 _ _ _ _ _ _ _ _ _ _ _)
      | (with_reducible exact ih7 _ _ _ _ _ _ _ _ _)
      | (with_reducible exact ih8 _ _ _ _ _ _)
      | (with_reducible exact ih9 _ _ _ _ _ _)
      | (with_reducible exact ih10 _ _ _ _)
      | (with_reducible exact ih11 _ _ _ _)
      | (with_reducible exact L04_wakes.mono _)
      | (with_reducible exact bk_Bytes.mono _ _ _)
      | (with_reducible exact bk_Ints.mono _ _ _)
      | (with_reducible exact codec_Get.mono _ _ _ _)
      | (with_reducible exact codec_GetList.mono _ _ _)
      | (with_reducible exact codec_Put.mono _ _ _ _)
      | (with_reducible exact codec_PutList.mono _ _ _)
      | (with_reducible exact ref01_Bytes.mono _ _ _)
      | (with_reducible exact ref01_Number.mono _ _)
      | (with_reducible exact LeO.refl _)
      | (with_reducible exact LeO.none _)
      | (with_reducible refine LeO.ite ?_ ?_)
      | (with_reducible refine LeO.bind ?_ (fun _ => ?_))
      | exact ih0 _ _ _ _ _ _
      | exact ih1 _ _ _ _ _ _ _ _ _ _ _ _ _ _ _ _
      | exact ih2 _ _ _ _ _ _ _ _ _ _ _ _ _ _ _ _
      | exact ih3 _ _ _ _ _ _ _ _ _ _ _ _
      | exact ih4 _ _ _ _ _ _ _ _ _ _ _ _ _ _
      | exact ih5 _ _ _ _ _ _ _ _ _
      | exact ih6 _ _ _ _ _ _ _ _ _ _ _
      | exact ih7 _ _ _ _ _ _ _ _ _
      | exact ih8 _ _ _ _ _ _
      | exact ih9 _ _ _ _ _ _
      | exact ih10 _ _ _ _
      | exact ih11 _ _ _ _
      | exact L04_wakes.mono _
      | exact bk_Bytes.mono _ _ _
      | exact bk_Ints.mono _ _ _
      | exact codec_Get.mono _ _ _ _
      | exact codec_GetList.mono _ _ _
      | exact codec_Put.mono _ _ _ _
      | exact codec_PutList.mono _ _ _
      | exact ref01_Bytes.mono _ _ _
      | exact ref01_Number.mono _ _
      | exact LeO.none _
      | refine LeO.ite ?_ ?_
      | refine LeO.bind ?_ (fun _ => ?_)
    · intro y0 y1 y2 y3 y4 y5 y6 y7 y8 y9 y10
      unfold L04_CodecExact.l0
      repeat' first
      | (with_reducible exact ih0 _ _ _ _ _ _)
      | (with_reducible exact ih1 _ _ _ _ _ _ _ _ _ _ _ _ _ _ _ _)
      | (with_reducible exact ih2 _ _ _ _ _ _ _ _ _ _ _ _ _ _ _ _)
      | (with_reducible exact ih3 _ _ _ _ _ _ _ _ _ _ _ _)
      | (with_reducible exact ih4 _ _ _ _ _ _ _ _ _ _ _ _ _ _)
      | (with_reducible exact ih5 _ _ _ _ _ _ _ _ _)
      | (with_reducible exact ih6 _ _ _ _ _ _ _ _ _ _ _)
      | (with_reducible exact ih7 _ _ _ _ _ _ _ _ _)
      | (with_reducible exact ih8 _ _ _ _ _ _)
      | (with_reducible exact ih9 _ _ _ _ _ _)
      | (with_reducible exact ih10 _ _ _ _)
      | (with_reducible exact ih11 _ _ _ _)
      | (with_reducible exact L04_wakes.mono _)
      | (with_reducible exact bk_Bytes.mono _ _ _)
      | (with_reducible exact bk_Ints.mono _ _ _)
      | (with_reducible exact codec_Get.mono _ _ _ _)
      | (with_reducible exact codec_GetList.mono _ _ _)
      | (with_reducible exact codec_Put.mono _ _ _ _)
      | (with_reducible exact codec_PutList.mono _ _ _)
      | (with_reducible exact ref01_Bytes.mono _ _ _)
      | (with_reducible exact ref01_Number.mono _ _)
      | (with_reducible exact LeO.refl _)
      | (with_reducible exact LeO.none _)
      | (with_reducible refine LeO.ite ?_ ?_)
      | (with_reducible refine LeO.bind ?_ (fun _ => ?_))
      | exact ih0 _ _ _ _ _ _
      | exact ih1 _ _ _ _ _ _ _ _ _ _ _ _ _ _ _ _
      | exact ih2 _ _ _ _ _ _ _ _ _ _ _ _ _ _ _ _
      | exact ih3 _ _ _ _ _ _ _ _ _ _ _ _
      | exact ih4 _ _ _ _ _ _ _ _ _ _ _ _ _ _
      | exact ih5 _ _ _ _ _ _ _ _ _
      | exact ih6 _ _ _ _ _ _ _ _ _ _ _
      | exact ih7 _ _ _ _ _ _ _ _ _
      | exact ih8 _ _ _ _ _ _
      | exact ih9 _ _ _ _ _ _
      | exact ih10 _ _ _ _
      | exact ih11 _ _ _ _
      | exact L04_wakes.mono _
      | exact bk_Bytes.mono _ _ _
      | exact bk_Ints.mono _ _ _
      | exact codec_Get.mono _ _ _ _
      | exact codec_GetList.mono _ _ _
      | exact codec_Put.mono _ _ _ _
      | exact codec_PutList.mono _ _ _
      | exact ref01_Bytes.mono _ _ _
      | exact ref01_Number.mono _ _
      | exact LeO.none _
      | refine LeO.ite ?_ ?_
      | refine LeO.bind ?_ (fun _ => ?_)
    · intro y0 y1 y2 y3 y4 y5 y6 y7 y8
      unfold L04_CodecExact.j7
      repeat' first
      | (with_reducible exact ih0 _ _ _ _ _ _)
      | (with_reducible exact ih1 _ _ _ _ _ _ _ _ _ _ _ _ _ _ _ _)
      | (with_reducible exact ih2 _ _ _ _ _ _ _ _ _ _ _ _ _ _ _ _)
      | (with_reducible exact ih3 _ _ _ _ _ _ _ _ _ _ _ _)
      | (with_reducible exact ih4 _ _ _ _ _ _ _ _ _ _ _ _ _ _)
      | (with_reducible exact ih5 _ _ _ _ _ _ _ _ _)
      | (with_reducible exact ih6 _ _ _ _ _ _ _ _ _ _ _)
      | (with_reducible exact ih7 _ _ _ _ _ _ _ _ _)
      | (with_reducible exact ih8 _ _ _ _ _ _)
      | (with_reducible exact ih9 _ _ _ _ _ _)
      | (with_reducible exact ih10 _ _ _ _)
      | (with_reducible exact ih11 _ _ _ _)
      | (with_reducible exact L04_wakes.mono _)
      | (with_reducible exact bk_Bytes.mono _ _ _)
      | (with_reducible exact bk_Ints.mono _ _ _)
      | (with_reducible exact codec_Get.mono _ _ _ _)
      | (with_reducible exact codec_GetList.mono _ _ _)
      | (with_reducible exact codec_Put.mono _ _ _ _)
      | (with_reducible exact codec_PutList.mono _ _ _)
      | (with_reducible exact ref01_Bytes.mono _ _ _)
      | (with_reducible exact ref01_Number.mono _ _)
      | (with_reducible exact LeO.refl _)
      | (with_reducible exact LeO.none _)
      | (with_reducible refine LeO.ite ?_ ?_)
      | (with_reducible refine LeO.bind ?_ (fun _ => ?_))
      | exact ih0 _ _ _ _ _ _
      | exact ih1 _ _ _ _ _ _ _ _ _ _ _ _ _ _ _ _
      | exact ih2 _ _ _ _ _ _ _ _ _ _ _ _ _ _ _ _
      | exact ih3 _ _ _ _ _ _ _ _ _ _ _ _
      | exact ih4 _ _ _ _ _ _ _ _ _ _ _ _ _ _
      | exact ih5 _ _ _ _ _ _ _ _ _
      | exact ih6 _ _ _ _ _ _ _ _ _ _ _
      | exact ih7 _ _ _ _ _ _ _ _ _
      | exact ih8 _ _ _ _ _ _
      | exact ih9 _ _ _ _ _ _
      | exact ih10 _ _ _ _
      | exact ih11 _ _ _ _
      | exact L04_wakes.mono _
      | exact bk_Bytes.mono _ _ _
      | exact bk_Ints.mono _ _ _
      | exact codec_Get.mono _ _ _ _
      | exact codec_GetList.mono _ _ _
      | exact codec_Put.mono _ _ _ _
      | exact codec_PutList.mono _ _ _
      | exact ref01_Bytes.mono _ _ _
      | exact ref01_Number.mono _ _
      | exact LeO.none _
      | refine LeO.ite ?_ ?_
      | refine LeO.bind ?_ (fun _ => ?_)
    · intro y0 y1 y2 y3 y4 y5
      unfold L04_CodecExact.j8
      repeat' first
      | (with_reducible exact ih0 _ _ _ _ _ _)
      | (with_reducible exact ih1 _ _ _ _ _ _ _ _ _ _ _ _ _ _ _ _)
      | (with_reducible exact ih2 _ _ _ _ _ _ _ _ _ _ _ _ _ _ _ _)
      | (with_reducible exact ih3 _ _ _ _ _ _ _ _ _ _ _ _)
      | (with_reducible exact ih4 _ _ _ _ _ _ _ _ _ _ _ _ _ _)
      | (with_reducible exact ih5 _ _ _ _ _ _ _ _ _)
      | (with_reducible exact ih6 _ _ _ _ _ _ _ _ _ _ _)
      | (with_reducible exact ih7 _ _ _ _ _ _ _ _ _)
      | (with_reducible exact ih8 _ _ _ _ _ _)
      | (with_reducible exact ih9 _ _ _ _ _ _)
      | (with_reducible exact ih10 _ _ _ _)
      | (with_reducible exact ih11 _ _ _ _)
      | (with_reducible exact L04_wakes.mono _)
      | (with_reducible exact bk_Bytes.mono _ _ _)
      | (with_reducible exact bk_Ints.mono _ _ _)
      | (with_reducible exact codec_Get.mono _ _ _ _)
      | (with_reducible exact codec_GetList.mono _ _ _)
      | (with_reducible exact codec_Put.mono _ _ _ _)
      | (with_reducible exact codec_PutList.mono _ _ _)
      | (with_reducible exact ref01_Bytes.mono _ _ _)
      | (with_reducible exact ref01_Number.mono _ _)
      | (with_reducible exact LeO.refl _)
      | (with_reducible exact LeO.none _)
      | (with_reducible refine LeO.ite ?_ ?_)
      | (with_reducible refine LeO.bind ?_ (fun _ => ?_))
      | exact ih0 _ _ _ _ _ _
      | exact ih1 _ _ _ _ _ _ _ _ _ _ _ _ _ _ _ _
      | exact ih2 _ _ _ _ _ _ _ _ _ _ _ _ _ _ _ _
      | exact ih3 _ _ _ _ _ _ _ _ _ _ _ _
      | exact ih4 _ _ _ _ _ _ _ _ _ _ _ _ _ _
      | exact ih5 _ _ _ _ _ _ _ _ _
      | exact ih6 _ _ _ _ _ _ _ _ _ _ _
      | exact ih7 _ _ _ _ _ _ _ _ _
      | exact ih8 _ _ _ _ _ _
      | exact ih9 _ _ _ _ _ _
      | exact ih10 _ _ _ _
      | exact ih11 _ _ _ _
      | exact L04_wakes.mono _
      | exact bk_Bytes.mono _ _ _
      | exact bk_Ints.mono _ _ _
      | exact codec_Get.mono _ _ _ _
      | exact codec_GetList.mono _ _ _
      | exact codec_Put.mono _ _ _ _
      | exact codec_PutList.mono _ _ _
      | exact ref01_Bytes.mono _ _ _
      | exact ref01_Number.mono _ _
      | exact LeO.none _
      | refine LeO.ite ?_ ?_
      | refine LeO.bind ?_ (fun _ => ?_)
    · intro y0 y1 y2 y3 y4 y5
      unfold L04_CodecExact.j9
      repeat' first
      | (with_reducible exact ih0 _ _ _ _ _ _)
      | (with_reducible exact ih1 _ _ _ _ _ _ _ _ _ _ _ _ _ _ _ _)
      | (with_reducible exact ih2 _ _ _ _ _ _ _ _ _ _ _ _ _ _ _ _)
      | (with_reducible exact ih3 _ _ _ _ _ _ _ _ _ _ _ _)
      | (with_reducible exact ih4 _ _ _ _ _ _ _ _ _ _ _ _ _ _)
      | (with_reducible exact ih5 _ _ _ _ _ _ _ _ _)
      | (with_reducible exact ih6 _ _ _ _ _ _ _ _ _ _ _)
      | (with_reducible exact ih7 _ _ _ _ _ _ _ _ _)
      | (with_reducible exact ih8 _ _ _ _ _ _)
      | (with_reducible exact ih9 _ _ _ _ _ _)
      | (with_reducible exact ih10 _ _ _ _)
      | (with_reducible exact ih11 _ _ _ _)
      | (with_reducible exact L04_wakes.mono _)
      | (with_reducible exact bk_Bytes.mono _ _ _)
      | (with_reducible exact bk_Ints.mono _ _ _)
      | (with_reducible exact codec_Get.mono _ _ _ _)
      | (with_reducible exact codec_GetList.mono _ _ _)
      | (with_reducible exact codec_Put.mono _ _ _ _)
      | (with_reducible exact codec_PutList.mono _ _ _)
      | (with_reducible exact ref01_Bytes.mono _ _ _)
      | (with_reducible exact ref01_Number.mono _ _)
      | (with_reducible exact LeO.refl _)
      | (with_reducible exact LeO.none _)
      | (with_reducible refine LeO.ite ?_ ?_)
      | (with_reducible refine LeO.bind ?_ (fun _ => ?_))
      | exact ih0 _ _ _ _ _ _
      | exact ih1 _ _ _ _ _ _ _ _ _ _ _ _ _ _ _ _
      | exact ih2 _ _ _ _ _ _ _ _ _ _ _ _ _ _ _ _
      | exact ih3 _ _ _ _ _ _ _ _ _ _ _ _
      | exact ih4 _ _ _ _ _ _ _ _ _ _ _ _ _ _
      | exact ih5 _ _ _ _ _ _ _ _ _
      | exact ih6 _ _ _ _ _ _ _ _ _ _ _
      | exact ih7 _ _ _ _ _ _ _ _ _
      | exact ih8 _ _ _ _ _ _
      | exact ih9 _ _ _ _ _ _
      | exact ih10 _ _ _ _
      | exact ih11 _ _ _ _
      | exact L04_wakes.mono _
      | exact bk_Bytes.mono _ _ _
      | exact bk_Ints.mono _ _ _
      | exact codec_Get.mono _ _ _ _
      | exact codec_GetList.mono _ _ _
      | exact codec_Put.mono _ _ _ _
      | exact codec_PutList.mono _ _ _
      | exact ref01_Bytes.mono _ _ _
      | exact ref01_Number.mono _ _
      | exact LeO.none _
      | refine LeO.ite ?_ ?_
      | refine LeO.bind ?_ (fun _ => ?_)
    · intro y0 y1 y2 y3
      unfold L04_CodecExact.j10
      repeat' first
      | (with_reducible exact ih0 _ _ _ _ _ _)
      | (with_reducible exact ih1 _ _ _ _ _ _ _ _ _ _ _ _ _ _ _ _)
      | (with_reducible exact ih2 _ _ _ _ _ _ _ _ _ _ _ _ _ _ _ _)
      | (with_reducible exact ih3 _ _ _ _ _ _ _ _ _ _ _ _)
      | (with_reducible exact ih4 _ _ _ _ _ _ _ _ _ _ _ _ _ _)
      | (with_reducible exact ih5 _ _ _ _ _ _ _ _ _)
      | (with_reducible exact ih6 _ _ _ _ _ _ _ _ _ _ _)
      | (with_reducible exact ih7 _ _ _ _ _ _ _ _ _)
      | (with_reducible exact ih8 _ _ _ _ _ _)
      | (with_reducible exact ih9 _ _ _ _ _ _)
      | (with_reducible exact ih10 _ _ _ _)
      | (with_reducible exact ih11 _ _ _ _)
      | (with_reducible exact L04_wakes.mono _)
      | (with_reducible exact bk_Bytes.mono _ _ _)
      | (with_reducible exact bk_Ints.mono _ _ _)
      | (with_reducible exact codec_Get.mono _ _ _ _)
      | (with_reducible exact codec_GetList.mono _ _ _)
      | (with_reducible exact codec_Put.mono _ _ _ _)
      | (with_reducible exact codec_PutList.mono _ _ _)
      | (with_reducible exact ref01_Bytes.mono _ _ _)
      | (with_reducible exact ref01_Number.mono _ _)
      | (with_reducible exact LeO.refl _)
      | (with_reducible exact LeO.none _)
      | (with_reducible refine LeO.ite ?_ ?_)
      | (with_reducible refine LeO.bind ?_ (fun _ => ?_))
      | exact ih0 _ _ _ _ _ _
      | exact ih1 _ _ _ _ _ _ _ _ _ _ _ _ _ _ _ _
      | exact ih2 _ _ _ _ _ _ _ _ _ _ _ _ _ _ _ _
      | exact ih3 _ _ _ _ _ _ _ _ _ _ _ _
      | exact ih4 _ _ _ _ _ _ _ _ _ _ _ _ _ _
      | exact ih5 _ _ _ _ _ _ _ _ _
      | exact ih6 _ _ _ _ _ _ _ _ _ _ _
      | exact ih7 _ _ _ _ _ _ _ _ _
      | exact ih8 _ _ _ _ _ _
      | exact ih9 _ _ _ _ _ _
      | exact ih10 _ _ _ _
      | exact ih11 _ _ _ _
      | exact L04_wakes.mono _
      | exact bk_Bytes.mono _ _ _
      | exact bk_Ints.mono _ _ _
      | exact codec_Get.mono _ _ _ _
      | exact codec_GetList.mono _ _ _
      | exact codec_Put.mono _ _ _ _
      | exact codec_PutList.mono _ _ _
      | exact ref01_Bytes.mono _ _ _
      | exact ref01_Number.mono _ _
      | exact LeO.none _
      | refine LeO.ite ?_ ?_
      | refine LeO.bind ?_ (fun _ => ?_)
    · intro y0 y1 y2 y3
      unfold L04_CodecExact.l1
      repeat' first
      | (with_reducible exact ih0 _ _ _ _ _ _)
      | (with_reducible exact ih1 _ _ _ _ _ _ _ _ _ _ _ _ _ _ _ _)
      | (with_reducible exact ih2 _ _ _ _ _ _ _ _ _ _ _ _ _ _ _ _)
      | (with_reducible exact ih3 _ _ _ _ _ _ _ _ _ _ _ _)
      | (with_reducible exact ih4 _ _ _ _ _ _ _ _ _ _ _ _ _ _)
      | (with_reducible exact ih5 _ _ _ _ _ _ _ _ _)
      | (with_reducible exact ih6 _ _ _ _ _ _ _ _ _ _ _)
      | (with_reducible exact ih7 _ _ _ _ _ _ _ _ _)
      | (with_reducible exact ih8 _ _ _ _ _ _)
      | (with_reducible exact ih9 _ _ _ _ _ _)
      | (with_reducible exact ih10 _ _ _ _)
      | (with_reducible exact ih11 _ _ _ _)
      | (with_reducible exact L04_wakes.mono _)
      | (with_reducible exact bk_Bytes.mono _ _ _)
      | (with_reducible exact bk_Ints.mono _ _ _)
      | (with_reducible exact codec_Get.mono _ _ _ _)
      | (with_reducible exact codec_GetList.mono _ _ _)
      | (with_reducible exact codec_Put.mono _ _ _ _)
      | (with_reducible exact codec_PutList.mono _ _ _)
      | (with_reducible exact ref01_Bytes.mono _ _ _)
      | (with_reducible exact ref01_Number.mono _ _)
      | (with_reducible exact LeO.refl _)
      | (with_reducible exact LeO.none _)
      | (with_reducible refine LeO.ite ?_ ?_)
      | (with_reducible refine LeO.bind ?_ (fun _ => ?_))
      | exact ih0 _ _ _ _ _ _
      | exact ih1 _ _ _ _ _ _ _ _ _ _ _ _ _ _ _ _
      | exact ih2 _ _ _ _ _ _ _ _ _ _ _ _ _ _ _ _
      | exact ih3 _ _ _ _ _ _ _ _ _ _ _ _
      | exact ih4 _ _ _ _ _ _ _ _ _ _ _ _ _ _
      | exact ih5 _ _ _ _ _ _ _ _ _
      | exact ih6 _ _ _ _ _ _ _ _ _ _ _
      | exact ih7 _ _ _ _ _ _ _ _ _
      | exact ih8 _ _ _ _ _ _
      | exact ih9 _ _ _ _ _ _
      | exact ih10 _ _ _ _
      | exact ih11 _ _ _ _
      | exact L04_wakes.mono _
      | exact bk_Bytes.mono _ _ _
      | exact bk_Ints.mono _ _ _
      | exact codec_Get.mono _ _ _ _
      | exact codec_GetList.mono _ _ _
      | exact codec_Put.mono _ _ _ _
      | exact codec_PutList.mono _ _ _
      | exact ref01_Bytes.mono _ _ _
      | exact ref01_Number.mono _ _
      | exact LeO.none _
      | refine LeO.ite ?_ ?_
      | refine LeO.bind ?_ (fun _ => ?_)
theorem L04_CodecExact.mono : ∀ a0 a1 a2 a3 a4 k, LeO (L04_CodecExact.f k a0 a1 a2 a3 a4) (L04_CodecExact.f (k + 1) a0 a1 a2 a3 a4) := by
  intro a0 a1 a2 a3 a4 k
  obtain ⟨ih0, ih1, ih2, ih3, ih4, ih5, ih6, ih7, ih8, ih9, ih10, ih11⟩ := L04_CodecExact.mono_l k
  unfold L04_CodecExact.f
  repeat' first
      | (with_reducible exact ih0 _ _ _ _ _ _)
      | (with_reducible exact ih1 _ _ _ _ _ _ _ _ _ _ _ _ _ _ _ _)
      | (with_reducible exact ih2 _ _ _ _ _ _ _ _ _ _ _ _ _ _ _ _)
      | (with_reducible exact ih3 _ _ _ _ _ _ _ _ _ _ _ _)
      | (with_reducible exact ih4 _ _ _ _ _ _ _ _ _ _ _ _ _ _)
      | (with_reducible exact ih5 _ _ _ _ _ _ _ _ _)
      | (with_reducible exact ih6 _ _ _ _ _ _ _ _ _ _ _)
      | (with_reducible exact ih7 _ _ _ _ _ _ _ _ _)
      | (with_reducible exact ih8 _ _ _ _ _ _)
      | (with_reducible exact ih9 _ _ _ _ _ _)
      | (with_reducible exact ih10 _ _ _ _)
      | (with_reducible exact ih11 _ _ _ _)
      | (with_reducible exact L04_wakes.mono _)
      | (with_reducible exact bk_Bytes.mono _ _ _)
      | (with_reducible exact bk_Ints.mono _ _ _)
      | (with_reducible exact codec_Get.mono _ _ _ _)
      | (with_reducible exact codec_GetList.mono _ _ _)
      | (with_reducible exact codec_Put.mono _ _ _ _)
      | (with_reducible exact codec_PutList.mono _ _ _)
      | (with_reducible exact ref01_Bytes.mono _ _ _)
      | (with_reducible exact ref01_Number.mono _ _)
      | (with_reducible exact LeO.refl _)
      | (with_reducible exact LeO.none _)
      | (with_reducible refine LeO.ite ?_ ?_)
      | (with_reducible refine LeO.bind ?_ (fun _ => ?_))
      | exact ih0 _ _ _ _ _ _
      | exact ih1 _ _ _ _ _ _ _ _ _ _ _ _ _ _ _ _
      | exact ih2 _ _ _ _ _ _ _ _ _ _ _ _ _ _ _ _
      | exact ih3 _ _ _ _ _ _ _ _ _ _ _ _
      | exact ih4 _ _ _ _ _ _ _ _ _ _ _ _ _ _
      | exact ih5 _ _ _ _ _ _ _ _ _
      | exact ih6 _ _ _ _ _ _ _ _ _ _ _
      | exact ih7 _ _ _ _ _ _ _ _ _
      | exact ih8 _ _ _ _ _ _
      | exact ih9 _ _ _ _ _ _
      | exact ih10 _ _ _ _
      | exact ih11 _ _ _ _
      | exact L04_wakes.mono _
      | exact bk_Bytes.mono _ _ _
      | exact bk_Ints.mono _ _ _
      | exact codec_Get.mono _ _ _ _
      | exact codec_GetList.mono _ _ _
      | exact codec_Put.mono _ _ _ _
      | exact codec_PutList.mono _ _ _
      | exact ref01_Bytes.mono _ _ _
      | exact ref01_Number.mono _ _
      | exact LeO.none _
      | refine LeO.ite ?_ ?_
      | refine LeO.bind ?_ (fun _ => ?_)

end Go.Proofs.Ytmjfjjnoconmoaa.PD
