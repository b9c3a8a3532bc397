/- Texts that the proof rests on, part 12. -/
import Derived.Test.YtiphindialkmnaaDoorMTwice11
section
namespace Go.Proofs.YtiphindialkmnaaDoor.X
open Go.RowKit Go.Proofs.YtiphindialkmnaaDoorW.PrintWords Go.Proofs.YtiphindialkmnaaDoorW.PrintLast Go.Proofs.YtiphindialkmnaaDoorW.PrintMore
attribute [local go_sem] max2_int min2_int max_two min_two max_three min_three max_four min_four
set_option linter.unusedVariables false
set_option linter.unusedSimpArgs false

/-! ### budwoodlaw11_ValidTwice: function 7 -/
mutual
def budwoodlaw11_ValidTwice.j0 : Nat → Int → Bool → ByteArray → List ByteArray → List ByteArray → List Int → List Int → List (S43) → Option (Bool)
 | 0, _, _, _, _, _, _, _, _ => none
 | k + 1, x1, x15, x102000, x102001, x102002, x102003, x102004, x102005 => if x15 = true then ((budwoodlaw11_awake.f k).bind fun t104 => (some t104)) else ((budwoodref10_Copy.f x102000 x102001 x102002 x102003 x102004 x102005).bind fun bt105 => (if (x102001.length : Int) > 0 then (budwoodlaw11_ValidTwice.j1 k x1 ((Int.tmod x1 3) == 0) x102000 x102001 x102002 x102003 x102004 x102005 bt105.1 bt105.2.1 bt105.2.2.1 bt105.2.2.2.1 bt105.2.2.2.2.1 bt105.2.2.2.2.2) else (budwoodlaw11_ValidTwice.j1 k x1 false x102000 x102001 x102002 x102003 x102004 x102005 bt105.1 bt105.2.1 bt105.2.2.1 bt105.2.2.2.1 bt105.2.2.2.2.1 bt105.2.2.2.2.2)))
def budwoodlaw11_ValidTwice.j1 : Nat → Int → Bool → ByteArray → List ByteArray → List ByteArray → List Int → List Int → List (S43) → ByteArray → List ByteArray → List ByteArray → List Int → List Int → List (S43) → Option (Bool)
 | 0, _, _, _, _, _, _, _, _, _, _, _, _, _, _ => none
 | k + 1, x1, x27, x102000, x102001, x102002, x102003, x102004, x102005, x122000, x122001, x122002, x122003, x122004, x122005 => if x27 = true then (if 0 < (x102001.length : Int) then (if x122001.length < 8796093022208 then (budwoodlaw11_ValidTwice.j2 k x1 x102000 x102001 x102002 x102003 x102004 x102005 x122000 (x122001 ++ [rdOf ByteArray.empty x102001 0]) x122002 x122003 x122004 x122005) else (none)) else (none)) else (budwoodlaw11_ValidTwice.j2 k x1 x102000 x102001 x102002 x102003 x102004 x102005 x122000 x122001 x122002 x122003 x122004 x122005)
def budwoodlaw11_ValidTwice.j2 : Nat → Int → ByteArray → List ByteArray → List ByteArray → List Int → List Int → List (S43) → ByteArray → List ByteArray → List ByteArray → List Int → List Int → List (S43) → Option (Bool)
 | 0, _, _, _, _, _, _, _, _, _, _, _, _, _ => none
 | k + 1, x1, x102000, x102001, x102002, x102003, x102004, x102005, x122000, x122001, x122002, x122003, x122004, x122005 => if (x102002.length : Int) > 0 then (budwoodlaw11_ValidTwice.j3 k x1 ((Int.tmod x1 3) == 1) x102000 x102001 x102002 x102003 x102004 x102005 x122000 x122001 x122002 x122003 x122004 x122005) else (budwoodlaw11_ValidTwice.j3 k x1 false x102000 x102001 x102002 x102003 x102004 x102005 x122000 x122001 x122002 x122003 x122004 x122005)
def budwoodlaw11_ValidTwice.j3 : Nat → Int → Bool → ByteArray → List ByteArray → List ByteArray → List Int → List Int → List (S43) → ByteArray → List ByteArray → List ByteArray → List Int → List Int → List (S43) → Option (Bool)
 | 0, _, _, _, _, _, _, _, _, _, _, _, _, _, _ => none
 | k + 1, x1, x45, x102000, x102001, x102002, x102003, x102004, x102005, x122000, x122001, x122002, x122003, x122004, x122005 => if x45 = true then (if 0 < (x102002.length : Int) then (if x122002.length < 8796093022208 then (budwoodlaw11_ValidTwice.j4 k x1 x102000 x102001 x102002 x102003 x102004 x102005 x122000 x122001 (x122002 ++ [rdOf ByteArray.empty x102002 0]) x122003 x122004 x122005) else (none)) else (none)) else (budwoodlaw11_ValidTwice.j4 k x1 x102000 x102001 x102002 x102003 x102004 x102005 x122000 x122001 x122002 x122003 x122004 x122005)
def budwoodlaw11_ValidTwice.j4 : Nat → Int → ByteArray → List ByteArray → List ByteArray → List Int → List Int → List (S43) → ByteArray → List ByteArray → List ByteArray → List Int → List Int → List (S43) → Option (Bool)
 | 0, _, _, _, _, _, _, _, _, _, _, _, _, _ => none
 | k + 1, x1, x102000, x102001, x102002, x102003, x102004, x102005, x122000, x122001, x122002, x122003, x122004, x122005 => if (x102005.length : Int) > 0 then (budwoodlaw11_ValidTwice.j5 k ((Int.tmod x1 3) == 2) x102000 x102001 x102002 x102003 x102004 x102005 x122000 x122001 x122002 x122003 x122004 x122005) else (budwoodlaw11_ValidTwice.j5 k false x102000 x102001 x102002 x102003 x102004 x102005 x122000 x122001 x122002 x122003 x122004 x122005)
def budwoodlaw11_ValidTwice.j5 : Nat → Bool → ByteArray → List ByteArray → List ByteArray → List Int → List Int → List (S43) → ByteArray → List ByteArray → List ByteArray → List Int → List Int → List (S43) → Option (Bool)
 | 0, _, _, _, _, _, _, _, _, _, _, _, _, _ => none
 | k + 1, x63, x102000, x102001, x102002, x102003, x102004, x102005, x122000, x122001, x122002, x122003, x122004, x122005 => if x63 = true then (if 0 < (x102005.length : Int) then (if x122005.length < 23456248059221 then (budwoodlaw11_ValidTwice.j6 k x102000 x102001 x102002 x102003 x102004 x102005 x122000 x122001 x122002 x122003 x122004 (x122005 ++ [(⟨(rd_T43 x102005 0).f0, (rd_T43 x102005 0).f1, (rd_T43 x102005 0).f2⟩ : S43)])) else (none)) else (none)) else (budwoodlaw11_ValidTwice.j6 k x102000 x102001 x102002 x102003 x102004 x102005 x122000 x122001 x122002 x122003 x122004 x122005)
def budwoodlaw11_ValidTwice.j6 : Nat → ByteArray → List ByteArray → List ByteArray → List Int → List Int → List (S43) → ByteArray → List ByteArray → List ByteArray → List Int → List Int → List (S43) → Option (Bool)
 | 0, _, _, _, _, _, _, _, _, _, _, _, _ => none
 | k + 1, x102000, x102001, x102002, x102003, x102004, x102005, x122000, x122001, x122002, x122003, x122004, x122005 => (valid_Module.f k x122000 x122001 x122002 x122003 x122004 x122005).bind fun bt134 => ((budwoodref10_Same.f k x122000 x122001 x122002 x122003 x122004 x122005 x102000 x102001 x102002 x102003 x102004 x102005).bind fun t136 => (if t136 = true then (if bt134.1 = 0 then ((budwoodlaw11_awake.f k).bind fun t137 => (some t137)) else (some false)) else (if bt134.1 = 1 then ((valid_Check.f k x122000 x122001 x122002 x122003 x122004 x122005).bind fun t138 => (if t138 = 20 then ((budwoodlaw11_awake.f k).bind fun t139 => (some t139)) else (some false))) else (if bt134.1 = 3 then ((valid_Check.f k x122000 x122001 x122002 x122003 x122004 x122005).bind fun t140 => (if t140 = 20 then ((budwoodlaw11_awake.f k).bind fun t141 => (some t141)) else (some false))) else (if bt134.1 = 6 then ((valid_Check.f k x122000 x122001 x122002 x122003 x122004 x122005).bind fun t142 => (if t142 = 20 then ((budwoodlaw11_awake.f k).bind fun t143 => (some t143)) else (some false))) else (if bt134.1 = 4 then ((valid_Check.f k x122000 x122001 x122002 x122003 x122004 x122005).bind fun t144 => (if t144 = 20 then ((budwoodlaw11_awake.f k).bind fun t145 => (some t145)) else (some false))) else (some false)))))))
end
def budwoodlaw11_ValidTwice.f (k : Nat) (a0_0 : ByteArray) (l0_1 : List ByteArray) (l0_2 : List ByteArray) (l0_3 : List Int) (l0_4 : List Int) (l0_5 : List (S43)) (a1 : Int) : Option (Bool) := (budwoodref10_Size.f k a0_0 l0_1 l0_2 l0_3 l0_4 l0_5).bind fun t102 => (if t102 > 2000 then (budwoodlaw11_ValidTwice.j0 k a1 true a0_0 l0_1 l0_2 l0_3 l0_4 l0_5) else ((valid_Check.f k a0_0 l0_1 l0_2 l0_3 l0_4 l0_5).bind fun t103 => (budwoodlaw11_ValidTwice.j0 k a1 (t103 != 0) a0_0 l0_1 l0_2 l0_3 l0_4 l0_5)))
theorem budwoodlaw11_ValidTwice.mono_l : ∀ k, (∀ y0 y1 y2 y3 y4 y5 y6 y7, LeO (budwoodlaw11_ValidTwice.j0 k y0 y1 y2 y3 y4 y5 y6 y7) (budwoodlaw11_ValidTwice.j0 (k + 1) y0 y1 y2 y3 y4 y5 y6 y7)) ∧ (∀ y0 y1 y2 y3 y4 y5 y6 y7 y8 y9 y10 y11 y12 y13, LeO (budwoodlaw11_ValidTwice.j1 k y0 y1 y2 y3 y4 y5 y6 y7 y8 y9 y10 y11 y12 y13) (budwoodlaw11_ValidTwice.j1 (k + 1) y0 y1 y2 y3 y4 y5 y6 y7 y8 y9 y10 y11 y12 y13)) ∧ (∀ y0 y1 y2 y3 y4 y5 y6 y7 y8 y9 y10 y11 y12, LeO (budwoodlaw11_ValidTwice.j2 k y0 y1 y2 y3 y4 y5 y6 y7 y8 y9 y10 y11 y12) (budwoodlaw11_ValidTwice.j2 (k + 1) y0 y1 y2 y3 y4 y5 y6 y7 y8 y9 y10 y11 y12)) ∧ (∀ y0 y1 y2 y3 y4 y5 y6 y7 y8 y9 y10 y11 y12 y13, LeO (budwoodlaw11_ValidTwice.j3 k y0 y1 y2 y3 y4 y5 y6 y7 y8 y9 y10 y11 y12 y13) (budwoodlaw11_ValidTwice.j3 (k + 1) y0 y1 y2 y3 y4 y5 y6 y7 y8 y9 y10 y11 y12 y13)) ∧ (∀ y0 y1 y2 y3 y4 y5 y6 y7 y8 y9 y10 y11 y12, LeO (budwoodlaw11_ValidTwice.j4 k y0 y1 y2 y3 y4 y5 y6 y7 y8 y9 y10 y11 y12) (budwoodlaw11_ValidTwice.j4 (k + 1) y0 y1 y2 y3 y4 y5 y6 y7 y8 y9 y10 y11 y12)) ∧ (∀ y0 y1 y2 y3 y4 y5 y6 y7 y8 y9 y10 y11 y12, LeO (budwoodlaw11_ValidTwice.j5 k y0 y1 y2 y3 y4 y5 y6 y7 y8 y9 y10 y11 y12) (budwoodlaw11_ValidTwice.j5 (k + 1) y0 y1 y2 y3 y4 y5 y6 y7 y8 y9 y10 y11 y12)) ∧ (∀ y0 y1 y2 y3 y4 y5 y6 y7 y8 y9 y10 y11, LeO (budwoodlaw11_ValidTwice.j6 k y0 y1 y2 y3 y4 y5 y6 y7 y8 y9 y10 y11) (budwoodlaw11_ValidTwice.j6 (k + 1) y0 y1 y2 y3 y4 y5 y6 y7 y8 y9 y10 y11))
 | 0 => ⟨fun _ _ _ _ _ _ _ _ r h => by simp [budwoodlaw11_ValidTwice.j0] at h, fun _ _ _ _ _ _ _ _ _ _ _ _ _ _ r h => by simp [budwoodlaw11_ValidTwice.j1] at h, fun _ _ _ _ _ _ _ _ _ _ _ _ _ r h => by simp [budwoodlaw11_ValidTwice.j2] at h, fun _ _ _ _ _ _ _ _ _ _ _ _ _ _ r h => by simp [budwoodlaw11_ValidTwice.j3] at h, fun _ _ _ _ _ _ _ _ _ _ _ _ _ r h => by simp [budwoodlaw11_ValidTwice.j4] at h, fun _ _ _ _ _ _ _ _ _ _ _ _ _ r h => by simp [budwoodlaw11_ValidTwice.j5] at h, fun _ _ _ _ _ _ _ _ _ _ _ _ r h => by simp [budwoodlaw11_ValidTwice.j6] at h⟩
 | k + 1 => by
  obtain ⟨ih0, ih1, ih2, ih3, ih4, ih5, ih6⟩ := budwoodlaw11_ValidTwice.mono_l k
  refine ⟨?_, ?_, ?_, ?_, ?_, ?_, ?_⟩
  ·intro y0 y1 y2 y3 y4 y5 y6 y7
   unfold budwoodlaw11_ValidTwice.j0
   repeat' first
   | (with_reducible exact ih0 _ _ _ _ _ _ _ _)
   | (with_reducible exact ih1 _ _ _ _ _ _ _ _ _ _ _ _ _ _)
   | (with_reducible exact ih2 _ _ _ _ _ _ _ _ _ _ _ _ _)
   | (with_reducible exact ih3 _ _ _ _ _ _ _ _ _ _ _ _ _ _)
   | (with_reducible exact ih4 _ _ _ _ _ _ _ _ _ _ _ _ _)
   | (with_reducible exact ih5 _ _ _ _ _ _ _ _ _ _ _ _ _)
   | (with_reducible exact ih6 _ _ _ _ _ _ _ _ _ _ _ _)
   | (with_reducible exact budwoodlaw11_awake.mono _)
   | (with_reducible exact budwoodref10_Same.mono _ _ _ _ _ _ _ _ _ _ _ _ _)
   | (with_reducible exact budwoodref10_Size.mono _ _ _ _ _ _ _)
   | (with_reducible exact valid_Check.mono _ _ _ _ _ _ _)
   | (with_reducible exact valid_Module.mono _ _ _ _ _ _ _)
   | (with_reducible exact LeO.refl _)
   | (with_reducible exact LeO.none _)
   | (with_reducible refine LeO.ite ?_ ?_)
   | (with_reducible refine LeO.bind ?_ (fun _ => ?_))
   | exact ih0 _ _ _ _ _ _ _ _
   | exact ih1 _ _ _ _ _ _ _ _ _ _ _ _ _ _
   | exact ih2 _ _ _ _ _ _ _ _ _ _ _ _ _
   | exact ih3 _ _ _ _ _ _ _ _ _ _ _ _ _ _
   | exact ih4 _ _ _ _ _ _ _ _ _ _ _ _ _
   | exact ih5 _ _ _ _ _ _ _ _ _ _ _ _ _
   | exact ih6 _ _ _ _ _ _ _ _ _ _ _ _
   | exact budwoodlaw11_awake.mono _
   | exact budwoodref10_Same.mono _ _ _ _ _ _ _ _ _ _ _ _ _
   | exact budwoodref10_Size.mono _ _ _ _ _ _ _
   | exact valid_Check.mono _ _ _ _ _ _ _
   | exact valid_Module.mono _ _ _ _ _ _ _
   | exact LeO.none _
   | refine LeO.ite ?_ ?_
   | refine LeO.bind ?_ (fun _ => ?_)
  ·intro y0 y1 y2 y3 y4 y5 y6 y7 y8 y9 y10 y11 y12 y13
   unfold budwoodlaw11_ValidTwice.j1
   repeat' first
   | (with_reducible exact ih0 _ _ _ _ _ _ _ _)
   | (with_reducible exact ih1 _ _ _ _ _ _ _ _ _ _ _ _ _ _)
   | (with_reducible exact ih2 _ _ _ _ _ _ _ _ _ _ _ _ _)
   | (with_reducible exact ih3 _ _ _ _ _ _ _ _ _ _ _ _ _ _)
   | (with_reducible exact ih4 _ _ _ _ _ _ _ _ _ _ _ _ _)
   | (with_reducible exact ih5 _ _ _ _ _ _ _ _ _ _ _ _ _)
   | (with_reducible exact ih6 _ _ _ _ _ _ _ _ _ _ _ _)
   | (with_reducible exact budwoodlaw11_awake.mono _)
   | (with_reducible exact budwoodref10_Same.mono _ _ _ _ _ _ _ _ _ _ _ _ _)
   | (with_reducible exact budwoodref10_Size.mono _ _ _ _ _ _ _)
   | (with_reducible exact valid_Check.mono _ _ _ _ _ _ _)
   | (with_reducible exact valid_Module.mono _ _ _ _ _ _ _)
   | (with_reducible exact LeO.refl _)
   | (with_reducible exact LeO.none _)
   | (with_reducible refine LeO.ite ?_ ?_)
   | (with_reducible refine LeO.bind ?_ (fun _ => ?_))
   | exact ih0 _ _ _ _ _ _ _ _
   | exact ih1 _ _ _ _ _ _ _ _ _ _ _ _ _ _
   | exact ih2 _ _ _ _ _ _ _ _ _ _ _ _ _
   | exact ih3 _ _ _ _ _ _ _ _ _ _ _ _ _ _
   | exact ih4 _ _ _ _ _ _ _ _ _ _ _ _ _
   | exact ih5 _ _ _ _ _ _ _ _ _ _ _ _ _
   | exact ih6 _ _ _ _ _ _ _ _ _ _ _ _
   | exact budwoodlaw11_awake.mono _
   | exact budwoodref10_Same.mono _ _ _ _ _ _ _ _ _ _ _ _ _
   | exact budwoodref10_Size.mono _ _ _ _ _ _ _
   | exact valid_Check.mono _ _ _ _ _ _ _
   | exact valid_Module.mono _ _ _ _ _ _ _
   | exact LeO.none _
   | refine LeO.ite ?_ ?_
   | refine LeO.bind ?_ (fun _ => ?_)
  ·intro y0 y1 y2 y3 y4 y5 y6 y7 y8 y9 y10 y11 y12
   unfold budwoodlaw11_ValidTwice.j2
   repeat' first
   | (with_reducible exact ih0 _ _ _ _ _ _ _ _)
   | (with_reducible exact ih1 _ _ _ _ _ _ _ _ _ _ _ _ _ _)
   | (with_reducible exact ih2 _ _ _ _ _ _ _ _ _ _ _ _ _)
   | (with_reducible exact ih3 _ _ _ _ _ _ _ _ _ _ _ _ _ _)
   | (with_reducible exact ih4 _ _ _ _ _ _ _ _ _ _ _ _ _)
   | (with_reducible exact ih5 _ _ _ _ _ _ _ _ _ _ _ _ _)
   | (with_reducible exact ih6 _ _ _ _ _ _ _ _ _ _ _ _)
   | (with_reducible exact budwoodlaw11_awake.mono _)
   | (with_reducible exact budwoodref10_Same.mono _ _ _ _ _ _ _ _ _ _ _ _ _)
   | (with_reducible exact budwoodref10_Size.mono _ _ _ _ _ _ _)
   | (with_reducible exact valid_Check.mono _ _ _ _ _ _ _)
   | (with_reducible exact valid_Module.mono _ _ _ _ _ _ _)
   | (with_reducible exact LeO.refl _)
   | (with_reducible exact LeO.none _)
   | (with_reducible refine LeO.ite ?_ ?_)
   | (with_reducible refine LeO.bind ?_ (fun _ => ?_))
   | exact ih0 _ _ _ _ _ _ _ _
   | exact ih1 _ _ _ _ _ _ _ _ _ _ _ _ _ _
   | exact ih2 _ _ _ _ _ _ _ _ _ _ _ _ _
   | exact ih3 _ _ _ _ _ _ _ _ _ _ _ _ _ _
   | exact ih4 _ _ _ _ _ _ _ _ _ _ _ _ _
   | exact ih5 _ _ _ _ _ _ _ _ _ _ _ _ _
   | exact ih6 _ _ _ _ _ _ _ _ _ _ _ _
   | exact budwoodlaw11_awake.mono _
   | exact budwoodref10_Same.mono _ _ _ _ _ _ _ _ _ _ _ _ _
   | exact budwoodref10_Size.mono _ _ _ _ _ _ _
   | exact valid_Check.mono _ _ _ _ _ _ _
   | exact valid_Module.mono _ _ _ _ _ _ _
   | exact LeO.none _
   | refine LeO.ite ?_ ?_
   | refine LeO.bind ?_ (fun _ => ?_)
  ·intro y0 y1 y2 y3 y4 y5 y6 y7 y8 y9 y10 y11 y12 y13
   unfold budwoodlaw11_ValidTwice.j3
   repeat' first
   | (with_reducible exact ih0 _ _ _ _ _ _ _ _)
   | (with_reducible exact ih1 _ _ _ _ _ _ _ _ _ _ _ _ _ _)
   | (with_reducible exact ih2 _ _ _ _ _ _ _ _ _ _ _ _ _)
   | (with_reducible exact ih3 _ _ _ _ _ _ _ _ _ _ _ _ _ _)
   | (with_reducible exact ih4 _ _ _ _ _ _ _ _ _ _ _ _ _)
   | (with_reducible exact ih5 _ _ _ _ _ _ _ _ _ _ _ _ _)
   | (with_reducible exact ih6 _ _ _ _ _ _ _ _ _ _ _ _)
   | (with_reducible exact budwoodlaw11_awake.mono _)
   | (with_reducible exact budwoodref10_Same.mono _ _ _ _ _ _ _ _ _ _ _ _ _)
   | (with_reducible exact budwoodref10_Size.mono _ _ _ _ _ _ _)
   | (with_reducible exact valid_Check.mono _ _ _ _ _ _ _)
   | (with_reducible exact valid_Module.mono _ _ _ _ _ _ _)
   | (with_reducible exact LeO.refl _)
   | (with_reducible exact LeO.none _)
   | (with_reducible refine LeO.ite ?_ ?_)
   | (with_reducible refine LeO.bind ?_ (fun _ => ?_))
   | exact ih0 _ _ _ _ _ _ _ _
   | exact ih1 _ _ _ _ _ _ _ _ _ _ _ _ _ _
   | exact ih2 _ _ _ _ _ _ _ _ _ _ _ _ _
   | exact ih3 _ _ _ _ _ _ _ _ _ _ _ _ _ _
   | exact ih4 _ _ _ _ _ _ _ _ _ _ _ _ _
   | exact ih5 _ _ _ _ _ _ _ _ _ _ _ _ _
   | exact ih6 _ _ _ _ _ _ _ _ _ _ _ _
   | exact budwoodlaw11_awake.mono _
   | exact budwoodref10_Same.mono _ _ _ _ _ _ _ _ _ _ _ _ _
   | exact budwoodref10_Size.mono _ _ _ _ _ _ _
   | exact valid_Check.mono _ _ _ _ _ _ _
   | exact valid_Module.mono _ _ _ _ _ _ _
   | exact LeO.none _
   | refine LeO.ite ?_ ?_
   | refine LeO.bind ?_ (fun _ => ?_)
  ·intro y0 y1 y2 y3 y4 y5 y6 y7 y8 y9 y10 y11 y12
   unfold budwoodlaw11_ValidTwice.j4
   repeat' first
   | (with_reducible exact ih0 _ _ _ _ _ _ _ _)
   | (with_reducible exact ih1 _ _ _ _ _ _ _ _ _ _ _ _ _ _)
   | (with_reducible exact ih2 _ _ _ _ _ _ _ _ _ _ _ _ _)
   | (with_reducible exact ih3 _ _ _ _ _ _ _ _ _ _ _ _ _ _)
   | (with_reducible exact ih4 _ _ _ _ _ _ _ _ _ _ _ _ _)
   | (with_reducible exact ih5 _ _ _ _ _ _ _ _ _ _ _ _ _)
   | (with_reducible exact ih6 _ _ _ _ _ _ _ _ _ _ _ _)
   | (with_reducible exact budwoodlaw11_awake.mono _)
   | (with_reducible exact budwoodref10_Same.mono _ _ _ _ _ _ _ _ _ _ _ _ _)
   | (with_reducible exact budwoodref10_Size.mono _ _ _ _ _ _ _)
   | (with_reducible exact valid_Check.mono _ _ _ _ _ _ _)
   | (with_reducible exact valid_Module.mono _ _ _ _ _ _ _)
   | (with_reducible exact LeO.refl _)
   | (with_reducible exact LeO.none _)
   | (with_reducible refine LeO.ite ?_ ?_)
   | (with_reducible refine LeO.bind ?_ (fun _ => ?_))
   | exact ih0 _ _ _ _ _ _ _ _
   | exact ih1 _ _ _ _ _ _ _ _ _ _ _ _ _ _
   | exact ih2 _ _ _ _ _ _ _ _ _ _ _ _ _
   | exact ih3 _ _ _ _ _ _ _ _ _ _ _ _ _ _
   | exact ih4 _ _ _ _ _ _ _ _ _ _ _ _ _
   | exact ih5 _ _ _ _ _ _ _ _ _ _ _ _ _
   | exact ih6 _ _ _ _ _ _ _ _ _ _ _ _
   | exact budwoodlaw11_awake.mono _
   | exact budwoodref10_Same.mono _ _ _ _ _ _ _ _ _ _ _ _ _
   | exact budwoodref10_Size.mono _ _ _ _ _ _ _
   | exact valid_Check.mono _ _ _ _ _ _ _
   | exact valid_Module.mono _ _ _ _ _ _ _
   | exact LeO.none _
   | refine LeO.ite ?_ ?_
   | refine LeO.bind ?_ (fun _ => ?_)
  ·intro y0 y1 y2 y3 y4 y5 y6 y7 y8 y9 y10 y11 y12
   unfold budwoodlaw11_ValidTwice.j5
   repeat' first
   | (with_reducible exact ih0 _ _ _ _ _ _ _ _)
   | (with_reducible exact ih1 _ _ _ _ _ _ _ _ _ _ _ _ _ _)
   | (with_reducible exact ih2 _ _ _ _ _ _ _ _ _ _ _ _ _)
   | (with_reducible exact ih3 _ _ _ _ _ _ _ _ _ _ _ _ _ _)
   | (with_reducible exact ih4 _ _ _ _ _ _ _ _ _ _ _ _ _)
   | (with_reducible exact ih5 _ _ _ _ _ _ _ _ _ _ _ _ _)
   | (with_reducible exact ih6 _ _ _ _ _ _ _ _ _ _ _ _)
   | (with_reducible exact budwoodlaw11_awake.mono _)
   | (with_reducible exact budwoodref10_Same.mono _ _ _ _ _ _ _ _ _ _ _ _ _)
   | (with_reducible exact budwoodref10_Size.mono _ _ _ _ _ _ _)
   | (with_reducible exact valid_Check.mono _ _ _ _ _ _ _)
   | (with_reducible exact valid_Module.mono _ _ _ _ _ _ _)
   | (with_reducible exact LeO.refl _)
   | (with_reducible exact LeO.none _)
   | (with_reducible refine LeO.ite ?_ ?_)
   | (with_reducible refine LeO.bind ?_ (fun _ => ?_))
   | exact ih0 _ _ _ _ _ _ _ _
   | exact ih1 _ _ _ _ _ _ _ _ _ _ _ _ _ _
   | exact ih2 _ _ _ _ _ _ _ _ _ _ _ _ _
   | exact ih3 _ _ _ _ _ _ _ _ _ _ _ _ _ _
   | exact ih4 _ _ _ _ _ _ _ _ _ _ _ _ _
   | exact ih5 _ _ _ _ _ _ _ _ _ _ _ _ _
   | exact ih6 _ _ _ _ _ _ _ _ _ _ _ _
   | exact budwoodlaw11_awake.mono _
   | exact budwoodref10_Same.mono _ _ _ _ _ _ _ _ _ _ _ _ _
   | exact budwoodref10_Size.mono _ _ _ _ _ _ _
   | exact valid_Check.mono _ _ _ _ _ _ _
   | exact valid_Module.mono _ _ _ _ _ _ _
   | exact LeO.none _
   | refine LeO.ite ?_ ?_
   | refine LeO.bind ?_ (fun _ => ?_)
  ·intro y0 y1 y2 y3 y4 y5 y6 y7 y8 y9 y10 y11
   unfold budwoodlaw11_ValidTwice.j6
   repeat' first
   | (with_reducible exact ih0 _ _ _ _ _ _ _ _)
   | (with_reducible exact ih1 _ _ _ _ _ _ _ _ _ _ _ _ _ _)
   | (with_reducible exact ih2 _ _ _ _ _ _ _ _ _ _ _ _ _)
   | (with_reducible exact ih3 _ _ _ _ _ _ _ _ _ _ _ _ _ _)
   | (with_reducible exact ih4 _ _ _ _ _ _ _ _ _ _ _ _ _)
   | (with_reducible exact ih5 _ _ _ _ _ _ _ _ _ _ _ _ _)
   | (with_reducible exact ih6 _ _ _ _ _ _ _ _ _ _ _ _)
   | (with_reducible exact budwoodlaw11_awake.mono _)
   | (with_reducible exact budwoodref10_Same.mono _ _ _ _ _ _ _ _ _ _ _ _ _)
   | (with_reducible exact budwoodref10_Size.mono _ _ _ _ _ _ _)
   | (with_reducible exact valid_Check.mono _ _ _ _ _ _ _)
   | (with_reducible exact valid_Module.mono _ _ _ _ _ _ _)
   | (with_reducible exact LeO.refl _)
   | (with_reducible exact LeO.none _)
   | (with_reducible refine LeO.ite ?_ ?_)
   | (with_reducible refine LeO.bind ?_ (fun _ => ?_))
   | exact ih0 _ _ _ _ _ _ _ _
   | exact ih1 _ _ _ _ _ _ _ _ _ _ _ _ _ _
   | exact ih2 _ _ _ _ _ _ _ _ _ _ _ _ _
   | exact ih3 _ _ _ _ _ _ _ _ _ _ _ _ _ _
   | exact ih4 _ _ _ _ _ _ _ _ _ _ _ _ _
   | exact ih5 _ _ _ _ _ _ _ _ _ _ _ _ _
   | exact ih6 _ _ _ _ _ _ _ _ _ _ _ _
   | exact budwoodlaw11_awake.mono _
   | exact budwoodref10_Same.mono _ _ _ _ _ _ _ _ _ _ _ _ _
   | exact budwoodref10_Size.mono _ _ _ _ _ _ _
   | exact valid_Check.mono _ _ _ _ _ _ _
   | exact valid_Module.mono _ _ _ _ _ _ _
   | exact LeO.none _
   | refine LeO.ite ?_ ?_
   | refine LeO.bind ?_ (fun _ => ?_)
theorem budwoodlaw11_ValidTwice.mono : ∀ a0 a1 a2 a3 a4 a5 a6 k, LeO (budwoodlaw11_ValidTwice.f k a0 a1 a2 a3 a4 a5 a6) (budwoodlaw11_ValidTwice.f (k + 1) a0 a1 a2 a3 a4 a5 a6) := by
 intro a0 a1 a2 a3 a4 a5 a6 k
 obtain ⟨ih0, ih1, ih2, ih3, ih4, ih5, ih6⟩ := budwoodlaw11_ValidTwice.mono_l k
 unfold budwoodlaw11_ValidTwice.f
 repeat' first
   | (with_reducible exact ih0 _ _ _ _ _ _ _ _)
   | (with_reducible exact ih1 _ _ _ _ _ _ _ _ _ _ _ _ _ _)
   | (with_reducible exact ih2 _ _ _ _ _ _ _ _ _ _ _ _ _)
   | (with_reducible exact ih3 _ _ _ _ _ _ _ _ _ _ _ _ _ _)
   | (with_reducible exact ih4 _ _ _ _ _ _ _ _ _ _ _ _ _)
   | (with_reducible exact ih5 _ _ _ _ _ _ _ _ _ _ _ _ _)
   | (with_reducible exact ih6 _ _ _ _ _ _ _ _ _ _ _ _)
   | (with_reducible exact budwoodlaw11_awake.mono _)
   | (with_reducible exact budwoodref10_Same.mono _ _ _ _ _ _ _ _ _ _ _ _ _)
   | (with_reducible exact budwoodref10_Size.mono _ _ _ _ _ _ _)
   | (with_reducible exact valid_Check.mono _ _ _ _ _ _ _)
   | (with_reducible exact valid_Module.mono _ _ _ _ _ _ _)
   | (with_reducible exact LeO.refl _)
   | (with_reducible exact LeO.none _)
   | (with_reducible refine LeO.ite ?_ ?_)
   | (with_reducible refine LeO.bind ?_ (fun _ => ?_))
   | exact ih0 _ _ _ _ _ _ _ _
   | exact ih1 _ _ _ _ _ _ _ _ _ _ _ _ _ _
   | exact ih2 _ _ _ _ _ _ _ _ _ _ _ _ _
   | exact ih3 _ _ _ _ _ _ _ _ _ _ _ _ _ _
   | exact ih4 _ _ _ _ _ _ _ _ _ _ _ _ _
   | exact ih5 _ _ _ _ _ _ _ _ _ _ _ _ _
   | exact ih6 _ _ _ _ _ _ _ _ _ _ _ _
   | exact budwoodlaw11_awake.mono _
   | exact budwoodref10_Same.mono _ _ _ _ _ _ _ _ _ _ _ _ _
   | exact budwoodref10_Size.mono _ _ _ _ _ _ _
   | exact valid_Check.mono _ _ _ _ _ _ _
   | exact valid_Module.mono _ _ _ _ _ _ _
   | exact LeO.none _
   | refine LeO.ite ?_ ?_
   | refine LeO.bind ?_ (fun _ => ?_)
def budwoodlaw11_ValidTwice.T5 : Bool × List (List Nat × List Nat) := (true, [([], []), ([0], [0]), ([], []), ([2], [2]), ([3], [3]), ([4], [4]), ([5], [5]), ([1, 6], [1, 6]), ([0, 1, 2, 3, 4, 5, 6, 7], []), ([8, 7, 7, 0, 1, 2, 3, 4, 5, 6, 7], [7, 8])])
def budwoodlaw11_ValidTwice.B5 : List Nat := [0, 1, 0, 4, 12, 28, 60, 127, 255, 511]
theorem budwoodlaw11_ValidTwice.tab5 : rtab .any (opsOf Tryd.f7 5) = budwoodlaw11_ValidTwice.T5 := by kernel_rfl
theorem budwoodlaw11_ValidTwice.bits5 : waitsOk budwoodlaw11_ValidTwice.T5.2 budwoodlaw11_ValidTwice.B5 = true := by kernel_rfl
def budwoodlaw11_ValidTwice.T7 : Bool × List (List Nat × List Nat) := (true, [([], []), ([0], [0]), ([], []), ([2], [2]), ([3], [3]), ([4], [4]), ([5], [5]), ([1, 6], [1, 6]), ([0, 1, 2, 3, 4, 5, 6, 7], []), ([8, 7, 7, 0, 1, 2, 3, 4, 5, 6, 7], [7, 8])])
def budwoodlaw11_ValidTwice.B7 : List Nat := [0, 1, 0, 4, 12, 28, 60, 127, 255, 511]
theorem budwoodlaw11_ValidTwice.tab7 : rtab .any (opsOf Tryd.f7 7) = budwoodlaw11_ValidTwice.T7 := by kernel_rfl
theorem budwoodlaw11_ValidTwice.bits7 : waitsOk budwoodlaw11_ValidTwice.T7.2 budwoodlaw11_ValidTwice.B7 = true := by kernel_rfl
def budwoodlaw11_ValidTwice.T9 : Bool × List (List Nat × List Nat) := (true, [([], []), ([0], [0]), ([], []), ([2], [2]), ([3], [3]), ([4], [4]), ([5], [5]), ([1, 6], [1, 6]), ([0, 1, 2, 3, 4, 5, 6, 7], []), ([8, 7, 7, 0, 1, 2, 3, 4, 5, 6, 7], [7, 8])])
def budwoodlaw11_ValidTwice.B9 : List Nat := [0, 1, 0, 4, 12, 28, 60, 127, 255, 511]
theorem budwoodlaw11_ValidTwice.tab9 : rtab .any (opsOf Tryd.f7 9) = budwoodlaw11_ValidTwice.T9 := by kernel_rfl
theorem budwoodlaw11_ValidTwice.bits9 : waitsOk budwoodlaw11_ValidTwice.T9.2 budwoodlaw11_ValidTwice.B9 = true := by kernel_rfl
set_option maxHeartbeats 8000000 in
set_option maxRecDepth 100000 in
theorem budwoodlaw11_ValidTwice.calls (k : Nat) (a0_0 : ByteArray) (A0_1 : Option Addr) (c0_1 : Nat) (l0_1 : List ByteArray) (A0_2 : Option Addr) (c0_2 : Nat) (l0_2 : List ByteArray) (A0_3 : Option Addr) (c0_3 : Nat) (l0_3 : List Int) (A0_4 : Option Addr) (c0_4 : Nat) (l0_4 : List Int) (A0_5 : Option Addr) (c0_5 : Nat) (l0_5 : List (S43)) (a1 : Int) (r : Bool) (w : World) (hG : Glob w) (hr0_1 : Kd.C Kd.string w A0_1 l0_1.length l0_1) (hc0_1 : l0_1.length ≤ c0_1) (hr0_2 : Kd.C Kd.string w A0_2 l0_2.length l0_2) (hc0_2 : l0_2.length ≤ c0_2) (hr0_3 : Kd.C (Kd.int .u32) w A0_3 l0_3.length l0_3) (hc0_3 : l0_3.length ≤ c0_3) (hr0_4 : Kd.C (Kd.int .u32) w A0_4 l0_4.length l0_4) (hc0_4 : l0_4.length ≤ c0_4) (hr0_5 : Kd.C k43 w A0_5 l0_5.length l0_5) (hc0_5 : l0_5.length ≤ c0_5) (h : budwoodlaw11_ValidTwice.f k a0_0 l0_1 l0_2 l0_3 l0_4 l0_5 a1 = some r) :
  Calls Tryd.prog 7 #[.agg #[.string a0_0, .slice A0_1 l0_1.length c0_1, .slice A0_2 l0_2.length c0_2, .slice A0_3 l0_3.length c0_3, .slice A0_4 l0_4.length c0_4, .slice A0_5 l0_5.length c0_5], .int .u8 a1] w fun e w' => e = .returned (.bool r) ∧ Below w.heap.size w w' := by
 have hu26 := Tryd.underlying26
 have hu43 := Tryd.underlying43
 have HR0_1 := Aside0.mk hr0_1
 have HC0_1 := Aside0.mk hc0_1
 clear hr0_1 hc0_1
 have HR0_2 := Aside0.mk hr0_2
 have HC0_2 := Aside0.mk hc0_2
 clear hr0_2 hc0_2
 have HR0_3 := Aside0.mk hr0_3
 have HC0_3 := Aside0.mk hc0_3
 clear hr0_3 hc0_3
 have HR0_4 := Aside0.mk hr0_4
 have HC0_4 := Aside0.mk hc0_4
 clear hr0_4 hc0_4
 have HR0_5 := Aside0.mk hr0_5
 have HC0_5 := Aside0.mk hc0_5
 clear hr0_5 hc0_5
 have HG := Aside0.mk hG
 clear hG
 have HB := Aside0.mk (Below.refl w.heap.size w)
 have H : ((budwoodref10_Size.f k a0_0 l0_1 l0_2 l0_3 l0_4 l0_5).bind fun t102 => (if t102 > 2000 then (budwoodlaw11_ValidTwice.j0 k a1 true a0_0 l0_1 l0_2 l0_3 l0_4 l0_5) else ((valid_Check.f k a0_0 l0_1 l0_2 l0_3 l0_4 l0_5).bind fun t103 => (budwoodlaw11_ValidTwice.j0 k a1 (t103 != 0) a0_0 l0_1 l0_2 l0_3 l0_4 l0_5)))) = some r := h
 clear h
 have HC3 := Aside0.mk H
 clear H
 go_enter Tryd.func7, Tryd.ntmps7
 go_upto_region 1 with (first | ((with_reducible refine gate_dst (N := 2) rfl ?_); refine box_event ?hg (N := 2) ?hd (cs := #[.string a0_0, .slice A0_1 l0_1.length c0_1, .slice A0_2 l0_2.length c0_2, .slice A0_3 l0_3.length c0_3, .slice A0_4 l0_4.length c0_4, .slice A0_5 l0_5.length c0_5]) (t := 26) ?hr ?_; (case hd => rfl); (case hg => rfl); (case hr => first | (go_simp; done) | (go_simp; rfl)); intro gb101 hg w4 hbox hb; have n0_ := Aside0.mk (below_step (tg HB.out) hb); have n1_ := Aside0.mk (hbox); have n2_ := Aside0.mk ((by rw [hg]; exact (below_size (tg HB.out)) : w.heap.size ≤ gb101)); have n3_ := Aside0.mk ((by rw [hg]; exact (below_size (tg HB.out)) : w.heap.size ≤ gb101)); clear HB; have HB := n0_; have BK101 := n1_; have GW101 := n2_; have GE101 := n3_; clear n0_ n1_ n2_ n3_; clear hb hbox hg))
 (try simp only [Act.put, List.setIfInBounds_toArray, List.set_cons_zero, List.set_cons_succ])
 go_cut [15] (fun v15 wc => ∃ (kq : Nat) (x15_2 : Bool), v15 = .bool x15_2 ∧ Aside0 (budwoodlaw11_ValidTwice.j0 kq a1 x15_2 a0_0 l0_1 l0_2 l0_3 l0_4 l0_5 = some r) ∧ Aside0 (kq ≤ k) ∧ Aside0 (wc.heap[gb101]? = some (.cells #[.string a0_0, (.slice A0_1 l0_1.length c0_1), (.slice A0_2 l0_2.length c0_2), (.slice A0_3 l0_3.length c0_3), (.slice A0_4 l0_4.length c0_4), (.slice A0_5 l0_5.length c0_5)] 26 (0, 0))) ∧ Aside0 (Below w.heap.size w wc))
 case first =>
  have H := HC3.out
  clear HC3
  replace H := Option.bind_eq_some_iff.mp H
  obtain ⟨t102, A50, H⟩ := H
  replace H : (if t102 > 2000 then (budwoodlaw11_ValidTwice.j0 k a1 true a0_0 l0_1 l0_2 l0_3 l0_4 l0_5) else ((valid_Check.f k a0_0 l0_1 l0_2 l0_3 l0_4 l0_5).bind fun t103 => (budwoodlaw11_ValidTwice.j0 k a1 (t103 != 0) a0_0 l0_1 l0_2 l0_3 l0_4 l0_5))) = some r := H
  have A5 := Aside0.mk A50
  clear A50
  by_cases c6 : t102 > 2000
  ·rw [if_pos c6] at H
   have c6b0 : decide (2000 < t102) = true := decide_eq_true c6
   clear c6
   (first | rw [c6b0] | (simp only [i64_w, i32_w]; rw [c6b0]) | skip)
   have H' := Aside0.mk H
   clear H
   have hcz7_0 := cz BK101.out 0 (.string a0_0)
   have hcz7_1 := cz BK101.out 1 (.slice A0_1 l0_1.length c0_1)
   have hcz7_2 := cz BK101.out 2 (.slice A0_2 l0_2.length c0_2)
   have hcz7_3 := cz BK101.out 3 (.slice A0_3 l0_3.length c0_3)
   have hcz7_4 := cz BK101.out 4 (.slice A0_4 l0_4.length c0_4)
   have hcz7_5 := cz BK101.out 5 (.slice A0_5 l0_5.length c0_5)
   have hfz7_0 := blk_frozen BK101.out 0
   have hfz7_1 := blk_frozen BK101.out 1
   have hfz7_2 := blk_frozen BK101.out 2
   have hfz7_3 := blk_frozen BK101.out 3
   have hfz7_4 := blk_frozen BK101.out 4
   have hfz7_5 := blk_frozen BK101.out 5
   go_wp2_with (first | ((with_reducible refine gate_callee (f := 13) rfl ?_); refine goesL_ (some 9) rfl rfl Tryd.func13 (by kernel_rfl) rfl #[.agg #[.string a0_0, .slice A0_1 l0_1.length c0_1, .slice A0_2 l0_2.length c0_2, .slice A0_3 l0_3.length c0_3, .slice A0_4 l0_4.length c0_4, .slice A0_5 l0_5.length c0_5]] rfl tm ?_; (with_reducible refine (budwoodref10_Size.calls k a0_0 _ _ l0_1 _ _ l0_2 _ _ l0_3 _ _ l0_4 _ _ l0_5 t102 _ ?side1 ?side2 ?side3 ?side4 ?side5 ?side6 ?side7 ?side8 ?side9 ?side10 A5.out).mono ?_); (case side1 => exact tc (Kd.C_below HR0_1.out HB.out)); (case side2 => exact HC0_1.out); (case side3 => exact tc (Kd.C_below HR0_2.out HB.out)); (case side4 => exact HC0_2.out); (case side5 => exact tc (Kd.C_below HR0_3.out HB.out)); (case side6 => exact HC0_3.out); (case side7 => exact tc (Kd.C_below HR0_4.out HB.out)); (case side8 => exact HC0_4.out); (case side9 => exact tc (Kd.C_below HR0_5.out HB.out)); (case side10 => exact HC0_5.out); rintro e w8 ⟨rfl, hb⟩; refine ⟨_, rfl, ?_⟩; replace BK101 := ba BK101.out hb; replace HB := Aside0.mk (below_step (tg1 HB.out GE101.out) hb); (try clear hb); (try clear hb2); (try clear hk); (try clear hi)))
   go_meet
   case rel => exact ⟨_, (true), (by first | rfl | (simp; done) | (simp [*]; done)), H', ⟨by first | omega | exact Nat.le_refl _⟩, ⟨by (with_reducible repeat (first | refine blk_drewN ?_ _ | refine blk_drew ?_ | refine blk_alloc ?_ _)); exact BK101.out⟩, ⟨tg1 HB.out GE101.out⟩⟩
  ·rw [if_neg c6] at H
   have c6b0 : decide (2000 < t102) = false := decide_eq_false c6
   clear c6
   (first | rw [c6b0] | (simp only [i64_w, i32_w]; rw [c6b0]) | skip)
   replace H := Option.bind_eq_some_iff.mp H
   obtain ⟨t103, A90, H⟩ := H
   replace H : (budwoodlaw11_ValidTwice.j0 k a1 (t103 != 0) a0_0 l0_1 l0_2 l0_3 l0_4 l0_5) = some r := H
   have A9 := Aside0.mk A90
   clear A90
   have H' := Aside0.mk H
   clear H
   have hcz10_0 := cz BK101.out 0 (.string a0_0)
   have hcz10_1 := cz BK101.out 1 (.slice A0_1 l0_1.length c0_1)
   have hcz10_2 := cz BK101.out 2 (.slice A0_2 l0_2.length c0_2)
   have hcz10_3 := cz BK101.out 3 (.slice A0_3 l0_3.length c0_3)
   have hcz10_4 := cz BK101.out 4 (.slice A0_4 l0_4.length c0_4)
   have hcz10_5 := cz BK101.out 5 (.slice A0_5 l0_5.length c0_5)
   have hfz10_0 := blk_frozen BK101.out 0
   have hfz10_1 := blk_frozen BK101.out 1
   have hfz10_2 := blk_frozen BK101.out 2
   have hfz10_3 := blk_frozen BK101.out 3
   have hfz10_4 := blk_frozen BK101.out 4
   have hfz10_5 := blk_frozen BK101.out 5
   go_wp2_with (first | ((with_reducible refine gate_callee (f := 13) rfl ?_); refine goesL_ (some 9) rfl rfl Tryd.func13 (by kernel_rfl) rfl #[.agg #[.string a0_0, .slice A0_1 l0_1.length c0_1, .slice A0_2 l0_2.length c0_2, .slice A0_3 l0_3.length c0_3, .slice A0_4 l0_4.length c0_4, .slice A0_5 l0_5.length c0_5]] rfl tm ?_; (with_reducible refine (budwoodref10_Size.calls k a0_0 _ _ l0_1 _ _ l0_2 _ _ l0_3 _ _ l0_4 _ _ l0_5 t102 _ ?side1 ?side2 ?side3 ?side4 ?side5 ?side6 ?side7 ?side8 ?side9 ?side10 A5.out).mono ?_); (case side1 => exact tc (Kd.C_below HR0_1.out HB.out)); (case side2 => exact HC0_1.out); (case side3 => exact tc (Kd.C_below HR0_2.out HB.out)); (case side4 => exact HC0_2.out); (case side5 => exact tc (Kd.C_below HR0_3.out HB.out)); (case side6 => exact HC0_3.out); (case side7 => exact tc (Kd.C_below HR0_4.out HB.out)); (case side8 => exact HC0_4.out); (case side9 => exact tc (Kd.C_below HR0_5.out HB.out)); (case side10 => exact HC0_5.out); rintro e w11 ⟨rfl, hb⟩; refine ⟨_, rfl, ?_⟩; replace BK101 := ba BK101.out hb; replace HB := Aside0.mk (below_step (tg1 HB.out GE101.out) hb); (try clear hb); (try clear hb2); (try clear hk); (try clear hi); have hcz12_0 := cz BK101.out 0 (.string a0_0); have hcz12_1 := cz BK101.out 1 (.slice A0_1 l0_1.length c0_1); have hcz12_2 := cz BK101.out 2 (.slice A0_2 l0_2.length c0_2); have hcz12_3 := cz BK101.out 3 (.slice A0_3 l0_3.length c0_3); have hcz12_4 := cz BK101.out 4 (.slice A0_4 l0_4.length c0_4); have hcz12_5 := cz BK101.out 5 (.slice A0_5 l0_5.length c0_5); have hfz12_0 := blk_frozen BK101.out 0; have hfz12_1 := blk_frozen BK101.out 1; have hfz12_2 := blk_frozen BK101.out 2; have hfz12_3 := blk_frozen BK101.out 3; have hfz12_4 := blk_frozen BK101.out 4; have hfz12_5 := blk_frozen BK101.out 5) | (go_at_call 18; (with_reducible refine (valid_Check.calls k a0_0 _ _ l0_1 _ _ l0_2 _ _ l0_3 _ _ l0_4 _ _ l0_5 t103 _ ?side11 ?side1 ?side2 ?side3 ?side4 ?side5 ?side6 ?side7 ?side8 ?side9 ?side10 A9.out).mono ?_); (case side1 => exact tc (Kd.C_below HR0_1.out HB.out)); (case side2 => exact HC0_1.out); (case side3 => exact tc (Kd.C_below HR0_2.out HB.out)); (case side4 => exact HC0_2.out); (case side5 => exact tc (Kd.C_below HR0_3.out HB.out)); (case side6 => exact HC0_3.out); (case side7 => exact tc (Kd.C_below HR0_4.out HB.out)); (case side8 => exact HC0_4.out); (case side9 => exact tc (Kd.C_below HR0_5.out HB.out)); (case side10 => exact HC0_5.out); (case side11 => first | exact HG.out | exact Glob.below HG.out (tg1 HB.out GE101.out)); rintro e w13 ⟨rfl, hb⟩; replace BK101 := ba BK101.out hb; replace HB := Aside0.mk (below_step (tg1 HB.out GE101.out) hb); (try clear hb); (try clear hb2); (try clear hk); (try clear hi)))
   go_meet
   case rel => exact ⟨_, ((t103 != 0)), (by first | rfl | (simp; done) | (simp [*]; done)), H', ⟨by first | omega | exact Nat.le_refl _⟩, ⟨by (with_reducible repeat (first | refine blk_drewN ?_ _ | refine blk_drew ?_ | refine blk_alloc ?_ _)); exact BK101.out⟩, ⟨tg1 HB.out GE101.out⟩⟩
 case rest =>
  clear HC3
  try clear c1
  try clear p2
  try clear c6
  try clear c6b0
  try clear c7
  try clear c13
  try clear hcz10_0
  try clear hcz10_1
  try clear hcz10_2
  try clear hcz10_3
  try clear hcz10_4
  try clear hcz10_5
  try clear hcz12_0
  try clear hcz12_1
  try clear hcz12_2
  try clear hcz12_3
  try clear hcz12_4
  try clear hcz12_5
  try clear hcz7_0
  try clear hcz7_1
  try clear hcz7_2
  try clear hcz7_3
  try clear hcz7_4
  try clear hcz7_5
  try clear hfz10_0
  try clear hfz10_1
  try clear hfz10_2
  try clear hfz10_3
  try clear hfz10_4
  try clear hfz10_5
  try clear hfz12_0
  try clear hfz12_1
  try clear hfz12_2
  try clear hfz12_3
  try clear hfz12_4
  try clear hfz12_5
  try clear hfz7_0
  try clear hfz7_1
  try clear hfz7_2
  try clear hfz7_3
  try clear hfz7_4
  try clear hfz7_5
  obtain ⟨kq, x15_2, rfl, HA, HJ2, BK101, HB⟩ := hcut
  cases kq with
  | zero => exact absurd HA.out (by simp [budwoodlaw11_ValidTwice.j0])
  | succ kj2 =>
   have H := HA.out
   clear HA
   simp only [budwoodlaw11_ValidTwice.j0] at H
   by_cases c14 : x15_2 = true
   ·subst c14
    have H1 : ((budwoodlaw11_awake.f kj2).bind fun t104 => (some t104)) = some r := by rw [if_pos rfl] at H; exact H
    clear H
    have H := H1
    clear H1
    replace H := Option.bind_eq_some_iff.mp H
    obtain ⟨t104, A150, H⟩ := H
    replace H : (some t104) = some r := H
    have A15 := Aside0.mk A150
    clear A150
    obtain rfl := Option.some.inj H
    go_wp2_with (first | ((with_reducible refine gate_callee (f := 14) rfl ?_); refine goesL_ (some 16) rfl rfl Tryd.func14 (by kernel_rfl) rfl #[] rfl tm ?_; (with_reducible refine (budwoodlaw11_awake.calls kj2  t104 _ ?side1 A15.out).mono ?_); (case side1 => first | exact HG.out | exact Glob.below HG.out (tg1 HB.out GE101.out)); rintro e w16 ⟨rfl, hb⟩; refine ⟨_, rfl, ?_⟩; replace BK101 := ba BK101.out hb; replace HB := Aside0.mk (below_step (tg1 HB.out GE101.out) hb); (try clear hb); (try clear hb2); (try clear hk); (try clear hi)))
    go_ret
    exact ⟨by first | rfl | (simp [errW_none, errW_some] <;> rfl) | (simp [*, errW_none, errW_some] <;> rfl), tg1 HB.out GE101.out⟩
   ·replace c14 := Bool.eq_false_iff.mpr c14
    subst c14
    have H1 : ((budwoodref10_Copy.f a0_0 l0_1 l0_2 l0_3 l0_4 l0_5).bind fun bt105 => (if (l0_1.length : Int) > 0 then (budwoodlaw11_ValidTwice.j1 kj2 a1 ((Int.tmod a1 3) == 0) a0_0 l0_1 l0_2 l0_3 l0_4 l0_5 bt105.1 bt105.2.1 bt105.2.2.1 bt105.2.2.2.1 bt105.2.2.2.2.1 bt105.2.2.2.2.2) else (budwoodlaw11_ValidTwice.j1 kj2 a1 false a0_0 l0_1 l0_2 l0_3 l0_4 l0_5 bt105.1 bt105.2.1 bt105.2.2.1 bt105.2.2.2.1 bt105.2.2.2.2.1 bt105.2.2.2.2.2))) = some r := by rw [if_neg (show ¬ (false = true) by decide)] at H; exact H
    clear H
    have H := H1
    clear H1
    replace H := Option.bind_eq_some_iff.mp H
    obtain ⟨⟨t105, t106, t109, t112, t115, t118⟩, A170, H⟩ := H
    replace H : (if (l0_1.length : Int) > 0 then (budwoodlaw11_ValidTwice.j1 kj2 a1 ((Int.tmod a1 3) == 0) a0_0 l0_1 l0_2 l0_3 l0_4 l0_5 t105 t106 t109 t112 t115 t118) else (budwoodlaw11_ValidTwice.j1 kj2 a1 false a0_0 l0_1 l0_2 l0_3 l0_4 l0_5 t105 t106 t109 t112 t115 t118)) = some r := H
    have A17 := Aside0.mk A170
    clear A170
    have HC18 := Aside0.mk H
    clear H
    have hcz19_0 := cz BK101.out 0 (.string a0_0)
    have hcz19_1 := cz BK101.out 1 (.slice A0_1 l0_1.length c0_1)
    have hcz19_2 := cz BK101.out 2 (.slice A0_2 l0_2.length c0_2)
    have hcz19_3 := cz BK101.out 3 (.slice A0_3 l0_3.length c0_3)
    have hcz19_4 := cz BK101.out 4 (.slice A0_4 l0_4.length c0_4)
    have hcz19_5 := cz BK101.out 5 (.slice A0_5 l0_5.length c0_5)
    have hfz19_0 := blk_frozen BK101.out 0
    have hfz19_1 := blk_frozen BK101.out 1
    have hfz19_2 := blk_frozen BK101.out 2
    have hfz19_3 := blk_frozen BK101.out 3
    have hfz19_4 := blk_frozen BK101.out 4
    have hfz19_5 := blk_frozen BK101.out 5
    go_upto_region 4 with (first | ((with_reducible refine gate_callee (f := 15) rfl ?_); refine goesL_ (some 18) rfl rfl Tryd.func15 (by kernel_rfl) rfl #[.agg #[.string a0_0, .slice A0_1 l0_1.length c0_1, .slice A0_2 l0_2.length c0_2, .slice A0_3 l0_3.length c0_3, .slice A0_4 l0_4.length c0_4, .slice A0_5 l0_5.length c0_5]] rfl tm ?_; (with_reducible refine (budwoodref10_Copy.calls a0_0 _ _ l0_1 _ _ l0_2 _ _ l0_3 _ _ l0_4 _ _ l0_5 t105 t106 t109 t112 t115 t118 _ ?side1 ?side2 ?side3 ?side4 ?side5 ?side6 ?side7 ?side8 ?side9 ?side10 A17.out).mono ?_); (case side1 => exact tc (Kd.C_below HR0_1.out HB.out)); (case side2 => exact HC0_1.out); (case side3 => exact tc (Kd.C_below HR0_2.out HB.out)); (case side4 => exact HC0_2.out); (case side5 => exact tc (Kd.C_below HR0_3.out HB.out)); (case side6 => exact HC0_3.out); (case side7 => exact tc (Kd.C_below HR0_4.out HB.out)); (case side8 => exact HC0_4.out); (case side9 => exact tc (Kd.C_below HR0_5.out HB.out)); (case side10 => exact HC0_5.out); rintro e w20 ⟨v107, v110, v113, v116, v119, rfl, ho0, ho1, ho2, ho3, ho4, hb⟩; refine ⟨_, rfl, ?_⟩; have HO108 := Aside0.mk (Kd.R_lower ho0 (below_size (tg1 HB.out GE101.out))); have HO111 := Aside0.mk (Kd.R_lower ho1 (below_size (tg1 HB.out GE101.out))); have HO114 := Aside0.mk (Kd.R_lower ho2 (below_size (tg1 HB.out GE101.out))); have HO117 := Aside0.mk (Kd.R_lower ho3 (below_size (tg1 HB.out GE101.out))); have HO120 := Aside0.mk (Kd.R_lower ho4 (below_size (tg1 HB.out GE101.out))); replace BK101 := ba BK101.out hb; replace HB := Aside0.mk (below_step (tg1 HB.out GE101.out) hb); (try clear hb); (try clear hb2); (try clear hk); (try clear hi); (try clear ho0); (try clear ho1); (try clear ho2); (try clear ho3); (try clear ho4)) | ((with_reducible refine gate_dst (N := 5) rfl ?_); refine box_event ?hg (N := 5) ?hd (cs := #[.string (⟨#[]⟩ : ByteArray), .slice none 0 0, .slice none 0 0, .slice none 0 0, .slice none 0 0, .slice none 0 0]) (t := 26) ?hr ?_; (case hd => rfl); (case hg => rfl); (case hr => first | (go_simp; done) | (go_simp; rfl)); intro gb121 hg w21 hbox hb; have n0_ := ra HO108.out hb; have n1_ := ra HO111.out hb; have n2_ := ra HO114.out hb; have n3_ := ra HO117.out hb; have n4_ := ra HO120.out hb; have n5_ := ba BK101.out hb; have n6_ := Aside0.mk (below_step (tg1 HB.out GE101.out) hb); have n7_ := Aside0.mk (hbox); have n8_ := Aside0.mk ((by rw [hg]; exact (below_size (tg1 HB.out GE101.out)) : w.heap.size ≤ gb121)); have n9_ := Aside0.mk ((by rw [hg]; exact (below_size (tg1 HB.out GE101.out)) : w.heap.size ≤ gb121)); have n10_ := Aside0.mk ((by rw [hg]; exact Nat.ne_of_lt (blk_lt (g := gb101) (o := .cells #[.string a0_0, .slice A0_1 l0_1.length c0_1, .slice A0_2 l0_2.length c0_2, .slice A0_3 l0_3.length c0_3, .slice A0_4 l0_4.length c0_4, .slice A0_5 l0_5.length c0_5] 26 (0, 0)) (tb BK101.out)) : gb101 ≠ gb121)); have n11_ := Aside0.mk ((by rw [hg]; exact Nat.ne_of_gt (blk_lt (g := gb101) (o := .cells #[.string a0_0, .slice A0_1 l0_1.length c0_1, .slice A0_2 l0_2.length c0_2, .slice A0_3 l0_3.length c0_3, .slice A0_4 l0_4.length c0_4, .slice A0_5 l0_5.length c0_5] 26 (0, 0)) (tb BK101.out)) : gb121 ≠ gb101)); clear HO108; clear HO111; clear HO114; clear HO117; clear HO120; clear BK101; clear HB; have HO108 := n0_; have HO111 := n1_; have HO114 := n2_; have HO117 := n3_; have HO120 := n4_; have BK101 := n5_; have HB := n6_; have BK121 := n7_; have GW121 := n8_; have GE121 := n9_; have NB101_121 := n10_; have NB121_101 := n11_; clear n0_ n1_ n2_ n3_ n4_ n5_ n6_ n7_ n8_ n9_ n10_ n11_; clear hb hbox hg; have hnb22 := NB121_101.out; have hnc22 := NB101_121.out; have hcz23_0 := cz BK121.out 0 (.string (⟨#[]⟩ : ByteArray)); have hcz23_1 := cz BK121.out 1 (.slice none 0 0); have hcz23_2 := cz BK121.out 2 (.slice none 0 0); have hcz23_3 := cz BK121.out 3 (.slice none 0 0); have hcz23_4 := cz BK121.out 4 (.slice none 0 0); have hcz23_5 := cz BK121.out 5 (.slice none 0 0); have hfz23_0 := blk_frozen BK121.out 0; have hfz23_1 := blk_frozen BK121.out 1; have hfz23_2 := blk_frozen BK121.out 2; have hfz23_3 := blk_frozen BK121.out 3; have hfz23_4 := blk_frozen BK121.out 4; have hfz23_5 := blk_frozen BK121.out 5; obtain ⟨Ao24, co24, eo24⟩ := Kd.R_slice HO108.out; subst eo24; obtain ⟨Ao25, co25, eo25⟩ := Kd.R_slice HO111.out; subst eo25; obtain ⟨Ao26, co26, eo26⟩ := Kd.R_slice HO114.out; subst eo26; obtain ⟨Ao27, co27, eo27⟩ := Kd.R_slice HO117.out; subst eo27; obtain ⟨Ao28, co28, eo28⟩ := Kd.R_slice HO120.out; subst eo28))
    (try simp only [Act.put, List.setIfInBounds_toArray, List.set_cons_zero, List.set_cons_succ])
    go_cut [27] (fun v27 wc => ∃ (kq : Nat) (x27_17 : Bool), v27 = .bool x27_17 ∧ Aside0 (budwoodlaw11_ValidTwice.j1 kq a1 x27_17 a0_0 l0_1 l0_2 l0_3 l0_4 l0_5 t105 t106 t109 t112 t115 t118 = some r) ∧ Aside0 (kq ≤ kj2) ∧ Aside0 (Kd.R Kd.string 9 wc w.heap.size (fun k_ => some k_ ≠ ((.slice Ao25 t109.length co25) : Value).ownBlock) (.slice Ao24 t106.length co24) t106) ∧ Aside0 (Kd.R Kd.string 9 wc w.heap.size (fun k_ => some k_ ≠ ((.slice Ao24 t106.length co24) : Value).ownBlock) (.slice Ao25 t109.length co25) t109) ∧ Aside0 (Kd.R (Kd.int .u32) 44 wc w.heap.size (fun k_ => some k_ ≠ ((.slice Ao27 t115.length co27) : Value).ownBlock) (.slice Ao26 t112.length co26) t112) ∧ Aside0 (Kd.R (Kd.int .u32) 44 wc w.heap.size (fun k_ => some k_ ≠ ((.slice Ao26 t112.length co26) : Value).ownBlock) (.slice Ao27 t115.length co27) t115) ∧ Aside0 (Kd.R k43 43 wc w.heap.size (fun _ => True) (.slice Ao28 t118.length co28) t118) ∧ Aside0 (wc.heap[gb101]? = some (.cells #[.string a0_0, (.slice A0_1 l0_1.length c0_1), (.slice A0_2 l0_2.length c0_2), (.slice A0_3 l0_3.length c0_3), (.slice A0_4 l0_4.length c0_4), (.slice A0_5 l0_5.length c0_5)] 26 (0, 0))) ∧ Aside0 (wc.heap[gb121]? = some (.cells #[.string t105, (.slice Ao24 t106.length co24), (.slice Ao25 t109.length co25), (.slice Ao26 t112.length co26), (.slice Ao27 t115.length co27), (.slice Ao28 t118.length co28)] 26 (0, 0))) ∧ Aside0 (Below w.heap.size w wc))
    case first =>
     have H := HC18.out
     clear HC18
     by_cases c29 : (l0_1.length : Int) > 0
     ·rw [if_pos c29] at H
      have c29b0 : decide (0 < (l0_1.length : Int)) = true := decide_eq_true c29
      have c29b1 : decide (0 < l0_1.length) = true := decide_eq_true (by omega)
      clear c29
      (first | rw [c29b0] | (simp only [i64_w, i32_w]; rw [c29b0]) | skip)
      have H' := Aside0.mk H
      clear H
      have hnb30 := NB101_121.out
      have hnc30 := NB121_101.out
      have hcz31_0 := cz BK101.out 0 (.string a0_0)
      have hcz31_1 := cz BK101.out 1 (.slice A0_1 l0_1.length c0_1)
      have hcz31_2 := cz BK101.out 2 (.slice A0_2 l0_2.length c0_2)
      have hcz31_3 := cz BK101.out 3 (.slice A0_3 l0_3.length c0_3)
      have hcz31_4 := cz BK101.out 4 (.slice A0_4 l0_4.length c0_4)
      have hcz31_5 := cz BK101.out 5 (.slice A0_5 l0_5.length c0_5)
      have hfz31_0 := blk_frozen BK101.out 0
      have hfz31_1 := blk_frozen BK101.out 1
      have hfz31_2 := blk_frozen BK101.out 2
      have hfz31_3 := blk_frozen BK101.out 3
      have hfz31_4 := blk_frozen BK101.out 4
      have hfz31_5 := blk_frozen BK101.out 5
      go_wp2
      go_meet
      case rel => exact ⟨_, (((Int.tmod a1 3) == 0)), (by first | rfl | (simp; done) | (simp [*]; done)), H', ⟨by have := HJ2.out; first | omega | exact Nat.le_refl _⟩, ⟨by (with_reducible repeat (first | apply Kd.R_alloc | apply Kd.R_drewN | apply Kd.R_drew)); exact Kd.R_mono (Kd.R_far (p := ⟨gb121, 5, none⟩) (Kd.R_far (p := ⟨gb121, 4, none⟩) (Kd.R_far (p := ⟨gb121, 3, none⟩) (Kd.R_far (p := ⟨gb121, 2, none⟩) (Kd.R_far (p := ⟨gb121, 1, none⟩) (Kd.R_far (p := ⟨gb121, 0, none⟩) (Kd.R_types HO108.out BK121.out (by decide)) (fun _ hk => hk.2) (.string t105)) (fun _ hk => hk.2) (.slice Ao24 t106.length co24)) (fun _ hk => hk.2) (.slice Ao25 t109.length co25)) (fun _ hk => hk.2) (.slice Ao26 t112.length co26)) (fun _ hk => hk.2) (.slice Ao27 t115.length co27)) (fun _ hk => hk.2) (.slice Ao28 t118.length co28)) (fun _ hk => hk.1)⟩, ⟨by (with_reducible repeat (first | apply Kd.R_alloc | apply Kd.R_drewN | apply Kd.R_drew)); exact Kd.R_mono (Kd.R_far (p := ⟨gb121, 5, none⟩) (Kd.R_far (p := ⟨gb121, 4, none⟩) (Kd.R_far (p := ⟨gb121, 3, none⟩) (Kd.R_far (p := ⟨gb121, 2, none⟩) (Kd.R_far (p := ⟨gb121, 1, none⟩) (Kd.R_far (p := ⟨gb121, 0, none⟩) (Kd.R_types HO111.out BK121.out (by decide)) (fun _ hk => hk.2) (.string t105)) (fun _ hk => hk.2) (.slice Ao24 t106.length co24)) (fun _ hk => hk.2) (.slice Ao25 t109.length co25)) (fun _ hk => hk.2) (.slice Ao26 t112.length co26)) (fun _ hk => hk.2) (.slice Ao27 t115.length co27)) (fun _ hk => hk.2) (.slice Ao28 t118.length co28)) (fun _ hk => hk.1)⟩, ⟨by (with_reducible repeat (first | apply Kd.R_alloc | apply Kd.R_drewN | apply Kd.R_drew)); exact Kd.R_mono (Kd.R_far (p := ⟨gb121, 5, none⟩) (Kd.R_far (p := ⟨gb121, 4, none⟩) (Kd.R_far (p := ⟨gb121, 3, none⟩) (Kd.R_far (p := ⟨gb121, 2, none⟩) (Kd.R_far (p := ⟨gb121, 1, none⟩) (Kd.R_far (p := ⟨gb121, 0, none⟩) (Kd.R_types HO114.out BK121.out (by decide)) (fun _ hk => hk.2) (.string t105)) (fun _ hk => hk.2) (.slice Ao24 t106.length co24)) (fun _ hk => hk.2) (.slice Ao25 t109.length co25)) (fun _ hk => hk.2) (.slice Ao26 t112.length co26)) (fun _ hk => hk.2) (.slice Ao27 t115.length co27)) (fun _ hk => hk.2) (.slice Ao28 t118.length co28)) (fun _ hk => hk.1)⟩, ⟨by (with_reducible repeat (first | apply Kd.R_alloc | apply Kd.R_drewN | apply Kd.R_drew)); exact Kd.R_mono (Kd.R_far (p := ⟨gb121, 5, none⟩) (Kd.R_far (p := ⟨gb121, 4, none⟩) (Kd.R_far (p := ⟨gb121, 3, none⟩) (Kd.R_far (p := ⟨gb121, 2, none⟩) (Kd.R_far (p := ⟨gb121, 1, none⟩) (Kd.R_far (p := ⟨gb121, 0, none⟩) (Kd.R_types HO117.out BK121.out (by decide)) (fun _ hk => hk.2) (.string t105)) (fun _ hk => hk.2) (.slice Ao24 t106.length co24)) (fun _ hk => hk.2) (.slice Ao25 t109.length co25)) (fun _ hk => hk.2) (.slice Ao26 t112.length co26)) (fun _ hk => hk.2) (.slice Ao27 t115.length co27)) (fun _ hk => hk.2) (.slice Ao28 t118.length co28)) (fun _ hk => hk.1)⟩, ⟨by (with_reducible repeat (first | apply Kd.R_alloc | apply Kd.R_drewN | apply Kd.R_drew)); exact Kd.R_mono (Kd.R_far (p := ⟨gb121, 5, none⟩) (Kd.R_far (p := ⟨gb121, 4, none⟩) (Kd.R_far (p := ⟨gb121, 3, none⟩) (Kd.R_far (p := ⟨gb121, 2, none⟩) (Kd.R_far (p := ⟨gb121, 1, none⟩) (Kd.R_far (p := ⟨gb121, 0, none⟩) (Kd.R_types HO120.out BK121.out (by decide)) (fun _ hk => hk.2) (.string t105)) (fun _ hk => hk.2) (.slice Ao24 t106.length co24)) (fun _ hk => hk.2) (.slice Ao25 t109.length co25)) (fun _ hk => hk.2) (.slice Ao26 t112.length co26)) (fun _ hk => hk.2) (.slice Ao27 t115.length co27)) (fun _ hk => hk.2) (.slice Ao28 t118.length co28)) (fun _ hk => trivial)⟩, ⟨by (with_reducible repeat (first | refine blk_drewN ?_ _ | refine blk_drew ?_ | refine blk_alloc ?_ _)); refine blk_far ?_ NB101_121.out _; (with_reducible repeat (first | refine blk_drewN ?_ _ | refine blk_drew ?_ | refine blk_alloc ?_ _)); refine blk_far ?_ NB101_121.out _; (with_reducible repeat (first | refine blk_drewN ?_ _ | refine blk_drew ?_ | refine blk_alloc ?_ _)); refine blk_far ?_ NB101_121.out _; (with_reducible repeat (first | refine blk_drewN ?_ _ | refine blk_drew ?_ | refine blk_alloc ?_ _)); refine blk_far ?_ NB101_121.out _; (with_reducible repeat (first | refine blk_drewN ?_ _ | refine blk_drew ?_ | refine blk_alloc ?_ _)); refine blk_far ?_ NB101_121.out _; (with_reducible repeat (first | refine blk_drewN ?_ _ | refine blk_drew ?_ | refine blk_alloc ?_ _)); refine blk_far ?_ NB101_121.out _; (with_reducible repeat (first | refine blk_drewN ?_ _ | refine blk_drew ?_ | refine blk_alloc ?_ _)); exact BK101.out⟩, ⟨by (with_reducible repeat (first | refine blk_drewN ?_ _ | refine blk_drew ?_ | refine blk_alloc ?_ _)); refine blk_put (cs := #[.string t105, .slice Ao24 t106.length co24, .slice Ao25 t109.length co25, .slice Ao26 t112.length co26, .slice Ao27 t115.length co27, .slice none 0 0]) ?_ 5 _ rfl; (with_reducible repeat (first | refine blk_drewN ?_ _ | refine blk_drew ?_ | refine blk_alloc ?_ _)); refine blk_put (cs := #[.string t105, .slice Ao24 t106.length co24, .slice Ao25 t109.length co25, .slice Ao26 t112.length co26, .slice none 0 0, .slice none 0 0]) ?_ 4 _ rfl; (with_reducible repeat (first | refine blk_drewN ?_ _ | refine blk_drew ?_ | refine blk_alloc ?_ _)); refine blk_put (cs := #[.string t105, .slice Ao24 t106.length co24, .slice Ao25 t109.length co25, .slice none 0 0, .slice none 0 0, .slice none 0 0]) ?_ 3 _ rfl; (with_reducible repeat (first | refine blk_drewN ?_ _ | refine blk_drew ?_ | refine blk_alloc ?_ _)); refine blk_put (cs := #[.string t105, .slice Ao24 t106.length co24, .slice none 0 0, .slice none 0 0, .slice none 0 0, .slice none 0 0]) ?_ 2 _ rfl; (with_reducible repeat (first | refine blk_drewN ?_ _ | refine blk_drew ?_ | refine blk_alloc ?_ _)); refine blk_put (cs := #[.string t105, .slice none 0 0, .slice none 0 0, .slice none 0 0, .slice none 0 0, .slice none 0 0]) ?_ 1 _ rfl; (with_reducible repeat (first | refine blk_drewN ?_ _ | refine blk_drew ?_ | refine blk_alloc ?_ _)); refine blk_put (cs := #[.string (⟨#[]⟩ : ByteArray), .slice none 0 0, .slice none 0 0, .slice none 0 0, .slice none 0 0, .slice none 0 0]) ?_ 0 _ rfl; (with_reducible repeat (first | refine blk_drewN ?_ _ | refine blk_drew ?_ | refine blk_alloc ?_ _)); exact BK121.out⟩, ⟨tg2 HB.out GE101.out GE121.out⟩⟩
     ·rw [if_neg c29] at H
      have c29b0 : decide (0 < (l0_1.length : Int)) = false := decide_eq_false c29
      have c29b1 : decide (0 < l0_1.length) = false := decide_eq_false (by omega)
      clear c29
      (first | rw [c29b0] | (simp only [i64_w, i32_w]; rw [c29b0]) | skip)
      have H' := Aside0.mk H
      clear H
      have hnb32 := NB101_121.out
      have hnc32 := NB121_101.out
      have hcz33_0 := cz BK101.out 0 (.string a0_0)
      have hcz33_1 := cz BK101.out 1 (.slice A0_1 l0_1.length c0_1)
      have hcz33_2 := cz BK101.out 2 (.slice A0_2 l0_2.length c0_2)
      have hcz33_3 := cz BK101.out 3 (.slice A0_3 l0_3.length c0_3)
      have hcz33_4 := cz BK101.out 4 (.slice A0_4 l0_4.length c0_4)
      have hcz33_5 := cz BK101.out 5 (.slice A0_5 l0_5.length c0_5)
      have hfz33_0 := blk_frozen BK101.out 0
      have hfz33_1 := blk_frozen BK101.out 1
      have hfz33_2 := blk_frozen BK101.out 2
      have hfz33_3 := blk_frozen BK101.out 3
      have hfz33_4 := blk_frozen BK101.out 4
      have hfz33_5 := blk_frozen BK101.out 5
      go_wp2
      go_meet
      case rel => exact ⟨_, (false), (by first | rfl | (simp; done) | (simp [*]; done)), H', ⟨by have := HJ2.out; first | omega | exact Nat.le_refl _⟩, ⟨by (with_reducible repeat (first | apply Kd.R_alloc | apply Kd.R_drewN | apply Kd.R_drew)); exact Kd.R_mono (Kd.R_far (p := ⟨gb121, 5, none⟩) (Kd.R_far (p := ⟨gb121, 4, none⟩) (Kd.R_far (p := ⟨gb121, 3, none⟩) (Kd.R_far (p := ⟨gb121, 2, none⟩) (Kd.R_far (p := ⟨gb121, 1, none⟩) (Kd.R_far (p := ⟨gb121, 0, none⟩) (Kd.R_types HO108.out BK121.out (by decide)) (fun _ hk => hk.2) (.string t105)) (fun _ hk => hk.2) (.slice Ao24 t106.length co24)) (fun _ hk => hk.2) (.slice Ao25 t109.length co25)) (fun _ hk => hk.2) (.slice Ao26 t112.length co26)) (fun _ hk => hk.2) (.slice Ao27 t115.length co27)) (fun _ hk => hk.2) (.slice Ao28 t118.length co28)) (fun _ hk => hk.1)⟩, ⟨by (with_reducible repeat (first | apply Kd.R_alloc | apply Kd.R_drewN | apply Kd.R_drew)); exact Kd.R_mono (Kd.R_far (p := ⟨gb121, 5, none⟩) (Kd.R_far (p := ⟨gb121, 4, none⟩) (Kd.R_far (p := ⟨gb121, 3, none⟩) (Kd.R_far (p := ⟨gb121, 2, none⟩) (Kd.R_far (p := ⟨gb121, 1, none⟩) (Kd.R_far (p := ⟨gb121, 0, none⟩) (Kd.R_types HO111.out BK121.out (by decide)) (fun _ hk => hk.2) (.string t105)) (fun _ hk => hk.2) (.slice Ao24 t106.length co24)) (fun _ hk => hk.2) (.slice Ao25 t109.length co25)) (fun _ hk => hk.2) (.slice Ao26 t112.length co26)) (fun _ hk => hk.2) (.slice Ao27 t115.length co27)) (fun _ hk => hk.2) (.slice Ao28 t118.length co28)) (fun _ hk => hk.1)⟩, ⟨by (with_reducible repeat (first | apply Kd.R_alloc | apply Kd.R_drewN | apply Kd.R_drew)); exact Kd.R_mono (Kd.R_far (p := ⟨gb121, 5, none⟩) (Kd.R_far (p := ⟨gb121, 4, none⟩) (Kd.R_far (p := ⟨gb121, 3, none⟩) (Kd.R_far (p := ⟨gb121, 2, none⟩) (Kd.R_far (p := ⟨gb121, 1, none⟩) (Kd.R_far (p := ⟨gb121, 0, none⟩) (Kd.R_types HO114.out BK121.out (by decide)) (fun _ hk => hk.2) (.string t105)) (fun _ hk => hk.2) (.slice Ao24 t106.length co24)) (fun _ hk => hk.2) (.slice Ao25 t109.length co25)) (fun _ hk => hk.2) (.slice Ao26 t112.length co26)) (fun _ hk => hk.2) (.slice Ao27 t115.length co27)) (fun _ hk => hk.2) (.slice Ao28 t118.length co28)) (fun _ hk => hk.1)⟩, ⟨by (with_reducible repeat (first | apply Kd.R_alloc | apply Kd.R_drewN | apply Kd.R_drew)); exact Kd.R_mono (Kd.R_far (p := ⟨gb121, 5, none⟩) (Kd.R_far (p := ⟨gb121, 4, none⟩) (Kd.R_far (p := ⟨gb121, 3, none⟩) (Kd.R_far (p := ⟨gb121, 2, none⟩) (Kd.R_far (p := ⟨gb121, 1, none⟩) (Kd.R_far (p := ⟨gb121, 0, none⟩) (Kd.R_types HO117.out BK121.out (by decide)) (fun _ hk => hk.2) (.string t105)) (fun _ hk => hk.2) (.slice Ao24 t106.length co24)) (fun _ hk => hk.2) (.slice Ao25 t109.length co25)) (fun _ hk => hk.2) (.slice Ao26 t112.length co26)) (fun _ hk => hk.2) (.slice Ao27 t115.length co27)) (fun _ hk => hk.2) (.slice Ao28 t118.length co28)) (fun _ hk => hk.1)⟩, ⟨by (with_reducible repeat (first | apply Kd.R_alloc | apply Kd.R_drewN | apply Kd.R_drew)); exact Kd.R_mono (Kd.R_far (p := ⟨gb121, 5, none⟩) (Kd.R_far (p := ⟨gb121, 4, none⟩) (Kd.R_far (p := ⟨gb121, 3, none⟩) (Kd.R_far (p := ⟨gb121, 2, none⟩) (Kd.R_far (p := ⟨gb121, 1, none⟩) (Kd.R_far (p := ⟨gb121, 0, none⟩) (Kd.R_types HO120.out BK121.out (by decide)) (fun _ hk => hk.2) (.string t105)) (fun _ hk => hk.2) (.slice Ao24 t106.length co24)) (fun _ hk => hk.2) (.slice Ao25 t109.length co25)) (fun _ hk => hk.2) (.slice Ao26 t112.length co26)) (fun _ hk => hk.2) (.slice Ao27 t115.length co27)) (fun _ hk => hk.2) (.slice Ao28 t118.length co28)) (fun _ hk => trivial)⟩, ⟨by (with_reducible repeat (first | refine blk_drewN ?_ _ | refine blk_drew ?_ | refine blk_alloc ?_ _)); refine blk_far ?_ NB101_121.out _; (with_reducible repeat (first | refine blk_drewN ?_ _ | refine blk_drew ?_ | refine blk_alloc ?_ _)); refine blk_far ?_ NB101_121.out _; (with_reducible repeat (first | refine blk_drewN ?_ _ | refine blk_drew ?_ | refine blk_alloc ?_ _)); refine blk_far ?_ NB101_121.out _; (with_reducible repeat (first | refine blk_drewN ?_ _ | refine blk_drew ?_ | refine blk_alloc ?_ _)); refine blk_far ?_ NB101_121.out _; (with_reducible repeat (first | refine blk_drewN ?_ _ | refine blk_drew ?_ | refine blk_alloc ?_ _)); refine blk_far ?_ NB101_121.out _; (with_reducible repeat (first | refine blk_drewN ?_ _ | refine blk_drew ?_ | refine blk_alloc ?_ _)); refine blk_far ?_ NB101_121.out _; (with_reducible repeat (first | refine blk_drewN ?_ _ | refine blk_drew ?_ | refine blk_alloc ?_ _)); exact BK101.out⟩, ⟨by (with_reducible repeat (first | refine blk_drewN ?_ _ | refine blk_drew ?_ | refine blk_alloc ?_ _)); refine blk_put (cs := #[.string t105, .slice Ao24 t106.length co24, .slice Ao25 t109.length co25, .slice Ao26 t112.length co26, .slice Ao27 t115.length co27, .slice none 0 0]) ?_ 5 _ rfl; (with_reducible repeat (first | refine blk_drewN ?_ _ | refine blk_drew ?_ | refine blk_alloc ?_ _)); refine blk_put (cs := #[.string t105, .slice Ao24 t106.length co24, .slice Ao25 t109.length co25, .slice Ao26 t112.length co26, .slice none 0 0, .slice none 0 0]) ?_ 4 _ rfl; (with_reducible repeat (first | refine blk_drewN ?_ _ | refine blk_drew ?_ | refine blk_alloc ?_ _)); refine blk_put (cs := #[.string t105, .slice Ao24 t106.length co24, .slice Ao25 t109.length co25, .slice none 0 0, .slice none 0 0, .slice none 0 0]) ?_ 3 _ rfl; (with_reducible repeat (first | refine blk_drewN ?_ _ | refine blk_drew ?_ | refine blk_alloc ?_ _)); refine blk_put (cs := #[.string t105, .slice Ao24 t106.length co24, .slice none 0 0, .slice none 0 0, .slice none 0 0, .slice none 0 0]) ?_ 2 _ rfl; (with_reducible repeat (first | refine blk_drewN ?_ _ | refine blk_drew ?_ | refine blk_alloc ?_ _)); refine blk_put (cs := #[.string t105, .slice none 0 0, .slice none 0 0, .slice none 0 0, .slice none 0 0, .slice none 0 0]) ?_ 1 _ rfl; (with_reducible repeat (first | refine blk_drewN ?_ _ | refine blk_drew ?_ | refine blk_alloc ?_ _)); refine blk_put (cs := #[.string (⟨#[]⟩ : ByteArray), .slice none 0 0, .slice none 0 0, .slice none 0 0, .slice none 0 0, .slice none 0 0]) ?_ 0 _ rfl; (with_reducible repeat (first | refine blk_drewN ?_ _ | refine blk_drew ?_ | refine blk_alloc ?_ _)); exact BK121.out⟩, ⟨tg2 HB.out GE101.out GE121.out⟩⟩
    case rest =>
     clear HC18
     try clear c1
     try clear c2
     try clear p2
     try clear c3
     try clear c6
     try clear c6b0
     try clear c7
     try clear c13
     try clear c14
     try clear c15
     try clear c22
     try clear c29
     try clear c29b0
     try clear c29b1
     try clear c30
     try clear c32
     try clear hcz10_0
     try clear hcz10_1
     try clear hcz10_2
     try clear hcz10_3
     try clear hcz10_4
     try clear hcz10_5
     try clear hcz12_0
     try clear hcz12_1
     try clear hcz12_2
     try clear hcz12_3
     try clear hcz12_4
     try clear hcz12_5
     try clear hcz19_0
     try clear hcz19_1
     try clear hcz19_2
     try clear hcz19_3
     try clear hcz19_4
     try clear hcz19_5
     try clear hcz23_0
     try clear hcz23_1
     try clear hcz23_2
     try clear hcz23_3
     try clear hcz23_4
     try clear hcz23_5
     try clear hcz31_0
     try clear hcz31_1
     try clear hcz31_2
     try clear hcz31_3
     try clear hcz31_4
     try clear hcz31_5
     try clear hcz33_0
     try clear hcz33_1
     try clear hcz33_2
     try clear hcz33_3
     try clear hcz33_4
     try clear hcz33_5
     try clear hcz7_0
     try clear hcz7_1
     try clear hcz7_2
     try clear hcz7_3
     try clear hcz7_4
     try clear hcz7_5
     try clear hfz10_0
     try clear hfz10_1
     try clear hfz10_2
     try clear hfz10_3
     try clear hfz10_4
     try clear hfz10_5
     try clear hfz12_0
     try clear hfz12_1
     try clear hfz12_2
     try clear hfz12_3
     try clear hfz12_4
     try clear hfz12_5
     try clear hfz19_0
     try clear hfz19_1
     try clear hfz19_2
     try clear hfz19_3
     try clear hfz19_4
     try clear hfz19_5
     try clear hfz23_0
     try clear hfz23_1
     try clear hfz23_2
     try clear hfz23_3
     try clear hfz23_4
     try clear hfz23_5
     try clear hfz31_0
     try clear hfz31_1
     try clear hfz31_2
     try clear hfz31_3
     try clear hfz31_4
     try clear hfz31_5
     try clear hfz33_0
     try clear hfz33_1
     try clear hfz33_2
     try clear hfz33_3
     try clear hfz33_4
     try clear hfz33_5
     try clear hfz7_0
     try clear hfz7_1
     try clear hfz7_2
     try clear hfz7_3
     try clear hfz7_4
     try clear hfz7_5
     try clear p2
     obtain ⟨kq, x27_17, rfl, HA, HJ17, HO_122001, HO_122002, HO_122003, HO_122004, HO_122005, BK101, BK121, HB⟩ := hcut
     cases kq with
     | zero => exact absurd HA.out (by simp [budwoodlaw11_ValidTwice.j1])
     | succ kj17 =>
      have H := HA.out
      clear HA
      simp only [budwoodlaw11_ValidTwice.j1] at H
      have HC34 := Aside0.mk H
      clear H
      go_upto_if 27 with (fail)
      go_cut [] (fun wc => ∃ (kq : Nat) (x122001_33 : List ByteArray) (u122001 : Value), Aside0 (budwoodlaw11_ValidTwice.j2 kq a1 a0_0 l0_1 l0_2 l0_3 l0_4 l0_5 t105 x122001_33 t109 t112 t115 t118 = some r) ∧ Aside0 (kq ≤ kj17) ∧ Aside0 (Kd.R Kd.string 9 wc w.heap.size (fun k_ => some k_ ≠ ((.slice Ao25 t109.length co25) : Value).ownBlock) u122001 x122001_33) ∧ Aside0 (Kd.R Kd.string 9 wc w.heap.size (fun k_ => some k_ ≠ (u122001 : Value).ownBlock) (.slice Ao25 t109.length co25) t109) ∧ Aside0 (Kd.R (Kd.int .u32) 44 wc w.heap.size (fun k_ => some k_ ≠ ((.slice Ao27 t115.length co27) : Value).ownBlock) (.slice Ao26 t112.length co26) t112) ∧ Aside0 (Kd.R (Kd.int .u32) 44 wc w.heap.size (fun k_ => some k_ ≠ ((.slice Ao26 t112.length co26) : Value).ownBlock) (.slice Ao27 t115.length co27) t115) ∧ Aside0 (Kd.R k43 43 wc w.heap.size (fun _ => True) (.slice Ao28 t118.length co28) t118) ∧ Aside0 (wc.heap[gb101]? = some (.cells #[.string a0_0, (.slice A0_1 l0_1.length c0_1), (.slice A0_2 l0_2.length c0_2), (.slice A0_3 l0_3.length c0_3), (.slice A0_4 l0_4.length c0_4), (.slice A0_5 l0_5.length c0_5)] 26 (0, 0))) ∧ Aside0 (wc.heap[gb121]? = some (.cells #[.string t105, u122001, (.slice Ao25 t109.length co25), (.slice Ao26 t112.length co26), (.slice Ao27 t115.length co27), (.slice Ao28 t118.length co28)] 26 (0, 0))) ∧ Aside0 (Below w.heap.size w wc))
      case first =>
       have H := HC34.out
       clear HC34
       by_cases c35 : x27_17 = true
       ·subst c35
        have H1 : (if 0 < (l0_1.length : Int) then (if t106.length < 8796093022208 then (budwoodlaw11_ValidTwice.j2 kj17 a1 a0_0 l0_1 l0_2 l0_3 l0_4 l0_5 t105 (t106 ++ [rdOf ByteArray.empty l0_1 0]) t109 t112 t115 t118) else (none)) else (none)) = some r := by rw [if_pos rfl] at H; exact H
        clear H
        have H := H1
        clear H1
        by_cases c36 : 0 < (l0_1.length : Int)
        ·rw [if_pos c36] at H
         have c36b0 : decide (0 < (l0_1.length : Int)) = true := decide_eq_true c36
         have c36b1 : decide (0 < l0_1.length) = true := decide_eq_true (by omega)
         clear c36
         (first | rw [c36b0] | (simp only [i64_w, i32_w]; rw [c36b0]) | skip)
         by_cases c37 : t106.length < 8796093022208
         ·rw [if_pos c37] at H
          have LMc37 := Aside0.mk c37
          clear c37
          obtain ⟨y123, hy123⟩ : ∃ y_ : List ByteArray, y_ = (t106 ++ [rdOf ByteArray.empty l0_1 0]) := ⟨_, rfl⟩
          replace H : (budwoodlaw11_ValidTwice.j2 kj17 a1 a0_0 l0_1 l0_2 l0_3 l0_4 l0_5 t105 y123 t109 t112 t115 t118) = some r := by first | (rw [hy123]; with_reducible exact H) | (have H2_ := (Option.bind_some _ _).symm.trans H; rw [hy123]; with_reducible exact H2_) | (have H2_ := (Option.bind_some _ _).symm.trans H; with_reducible exact H2_) | with_reducible exact H | (rw [hy123]; exact H) | exact H
          have Ny123 := Aside0.mk hy123
          clear hy123
          have H' := Aside0.mk H
          clear H
          try go_wp2
          replace HO_122001 := Aside0.mk (Kd.R_drew HO_122001.out)
          replace HO_122002 := Aside0.mk (Kd.R_drew HO_122002.out)
          replace HO_122003 := Aside0.mk (Kd.R_drew HO_122003.out)
          replace HO_122004 := Aside0.mk (Kd.R_drew HO_122004.out)
          replace HO_122005 := Aside0.mk (Kd.R_drew HO_122005.out)
          replace BK101 := Aside0.mk (blk_drew BK101.out)
          replace BK121 := Aside0.mk (blk_drew BK121.out)
          replace HB := Aside0.mk (below_drew1 HB.out)
          have p122 : 0 ≤ (0 : Int) := (by omega)
          have q122 : 0 < (l0_1.length : Int) := of_decide_eq_true (by first | (with_reducible assumption) | assumption)
          obtain ⟨ad122, e122, hx122_0⟩ := Kd.at_string HR0_1.out 0 p122 q122
          have hw122_0 := hx122_0
          (try rw [show ((0 : Int)).toNat = 0 from rfl] at hw122_0)
          (try rw [show 0 * 1 = 0 from rfl] at hw122_0)
          (try rw [Addr.add_zero'] at hw122_0)
          cases e122
          have qi122 : (0 < l0_1.length) = True := eq_true (by omega)
          (try rw [show ((0 : Int)).toNat = 0 from rfl] at hx122_0)
          (try rw [Addr.add_zero'] at hx122_0)
          replace hx122_0 := (HB.out.cell (World.block_lt_of_cell? w _ hx122_0)).trans hx122_0
          replace p122 := eq_true p122
          replace q122 := eq_true q122
          refine start_ (n := 10) (S := fun w' => w'.cell? ⟨gb121, 0, none⟩ = some (.string t105) ∧ w'.cell? ⟨gb121, 1, none⟩ = some (.slice Ao24 t106.length co24) ∧ w'.cell? ⟨gb121, 2, none⟩ = some (.slice Ao25 t109.length co25) ∧ w'.cell? ⟨gb121, 3, none⟩ = some (.slice Ao26 t112.length co26) ∧ w'.cell? ⟨gb121, 4, none⟩ = some (.slice Ao27 t115.length co27) ∧ w'.cell? ⟨gb121, 5, none⟩ = some (.slice Ao28 t118.length co28) ∧ w'.cell? ⟨gb101, 0, none⟩ = some (.string a0_0) ∧ w'.cell? ⟨gb101, 1, none⟩ = some (.slice (some ad122) l0_1.length c0_1) ∧ w'.cell? ⟨gb101, 2, none⟩ = some (.slice A0_2 l0_2.length c0_2) ∧ w'.cell? ⟨gb101, 3, none⟩ = some (.slice A0_3 l0_3.length c0_3) ∧ w'.cell? ⟨gb101, 4, none⟩ = some (.slice A0_4 l0_4.length c0_4) ∧ w'.cell? ⟨gb101, 5, none⟩ = some (.slice A0_5 l0_5.length c0_5) ∧ w'.cell? ad122 = some (.string (rdOf ByteArray.empty l0_1 0))) (ds := [9]) #[false, false, false, false, false, false, false, false, false, false] (by kernel_rfl) rfl rfl ⟨(blk_cell BK121.out 0).trans rfl, (blk_cell BK121.out 1).trans rfl, (blk_cell BK121.out 2).trans rfl, (blk_cell BK121.out 3).trans rfl, (blk_cell BK121.out 4).trans rfl, (blk_cell BK121.out 5).trans rfl, (blk_cell BK101.out 0).trans rfl, (blk_cell BK101.out 1).trans rfl, (blk_cell BK101.out 2).trans rfl, (blk_cell BK101.out 3).trans rfl, (blk_cell BK101.out 4).trans rfl, (blk_cell BK101.out 5).trans rfl, ((HB.out.cell (World.block_lt_of_cell? w _ hw122_0)).trans hw122_0)⟩ (fun hHeld => ?_); refine with_tabW budwoodlaw11_ValidTwice.tab5 budwoodlaw11_ValidTwice.bits5 (fun HT_ HW_ => ?_)
          generalize wc.drew = w38 at HO_122001 HO_122002 HO_122003 HO_122004 HO_122005 BK101 BK121 HB hx122_0 hHeld ⊢
          refine pure_ (i := 0) (N := some 28) (v := ?_) (a' := ?_) #[true, false, false, false, false, false, false, false, false, false] rfl rfl (any_of HT_.out (by kernel_rfl)) (fun _ _ _ h => h) (Or.inl ⟨by rfl, ?_⟩) ?_ ?_
          rotate_left
          ·intro w'
           go_simp
           with_reducible rfl
          rotate_left
          ·simp only [Act.put, List.setIfInBounds_toArray, List.set_cons_zero, List.set_cons_succ, i64_w, i32_w]
           rfl
          refine pure_ (i := 2) (N := some 30) (v := ?_) (a' := ?_) #[true, false, true, false, false, false, false, false, false, false] rfl rfl (any_of HT_.out (by kernel_rfl)) (fun _ _ _ h => h) (Or.inl ⟨by rfl, ?_⟩) ?_ ?_
          rotate_left
          ·intro w'
           go_simp
           with_reducible rfl
          rotate_left
          ·simp only [Act.put, List.setIfInBounds_toArray, List.set_cons_zero, List.set_cons_succ, i64_w, i32_w]
           rfl
          refine take_ (i := 1) (N := some 29) (v := ?_) (a' := ?_) #[true, true, true, false, false, false, false, false, false, false] rfl rfl (take_ofW HT_.out HW_.out (by kernel_rfl)) (fun _ _ _ h => h) (Or.inl ⟨by rfl, ?_⟩) hHeld ?_ ?_
          rotate_left
          ·rintro w' ⟨s0, s1, s2, s3, s4, s5, s6, s7, s8, s9, s10, s11, s12⟩
           go_simp
           with_reducible rfl
          rotate_left
          ·simp only [Act.put, List.setIfInBounds_toArray, List.set_cons_zero, List.set_cons_succ, i64_w, i32_w]
           rfl
          refine take_ (i := 3) (N := some 31) (v := ?_) (a' := ?_) #[true, true, true, true, false, false, false, false, false, false] rfl rfl (take_ofW HT_.out HW_.out (by kernel_rfl)) (fun _ _ _ h => h) (Or.inl ⟨by rfl, ?_⟩) hHeld ?_ ?_
          rotate_left
          ·rintro w' ⟨s0, s1, s2, s3, s4, s5, s6, s7, s8, s9, s10, s11, s12⟩
           go_simp
           with_reducible rfl
          rotate_left
          ·simp only [Act.put, List.setIfInBounds_toArray, List.set_cons_zero, List.set_cons_succ, i64_w, i32_w]
           rfl
          refine pure_ (i := 4) (N := some 32) (v := ?_) (a' := ?_) #[true, true, true, true, true, false, false, false, false, false] rfl rfl (any_of HT_.out (by kernel_rfl)) (fun _ _ _ h => h) (Or.inl ⟨by rfl, ?_⟩) ?_ ?_
          rotate_left
          ·intro w'
           go_simp
           with_reducible rfl
          rotate_left
          ·simp only [Act.put, List.setIfInBounds_toArray, List.set_cons_zero, List.set_cons_succ, i64_w, i32_w]
           rfl
          refine take_ (i := 5) (N := some 33) (v := ?_) (a' := ?_) #[true, true, true, true, true, true, false, false, false, false] rfl rfl (take_ofW HT_.out HW_.out (by kernel_rfl)) (fun _ _ _ h => h) (Or.inl ⟨by rfl, ?_⟩) hHeld ?_ ?_
          rotate_left
          ·rintro w' ⟨s0, s1, s2, s3, s4, s5, s6, s7, s8, s9, s10, s11, s12⟩
           go_simp
           with_reducible rfl
          rotate_left
          ·simp only [Act.put, List.setIfInBounds_toArray, List.set_cons_zero, List.set_cons_succ, i64_w, i32_w]
           rfl
          refine one_ (i := 6) (N := some 34) #[true, true, true, true, true, true, true, false, false, false] rfl rfl (one_of HT_.out (by kernel_rfl)) (by decide) (fun K hK => ?_)
          refine value_ (w1 := ?_) (v := ?_) (by rfl) rfl ?_ ?_
          rotate_left 2
          ·go_simp
           constructor
           ·rfl
           ·rfl
          refine hK.out _ _ ⟨(blk_cell (blk_alloc BK121.out _) 0).trans rfl, (blk_cell (blk_alloc BK121.out _) 1).trans rfl, (blk_cell (blk_alloc BK121.out _) 2).trans rfl, (blk_cell (blk_alloc BK121.out _) 3).trans rfl, (blk_cell (blk_alloc BK121.out _) 4).trans rfl, (blk_cell (blk_alloc BK121.out _) 5).trans rfl, (blk_cell (blk_alloc BK101.out _) 0).trans rfl, (blk_cell (blk_alloc BK101.out _) 1).trans rfl, (blk_cell (blk_alloc BK101.out _) 2).trans rfl, (blk_cell (blk_alloc BK101.out _) 3).trans rfl, (blk_cell (blk_alloc BK101.out _) 4).trans rfl, (blk_cell (blk_alloc BK101.out _) 5).trans rfl, (World.cell?_alloc_lt _ _ _ (World.block_lt_of_cell? _ _ (((HB.out.cell (World.block_lt_of_cell? w _ hw122_0)).trans hw122_0)))).trans (((HB.out.cell (World.block_lt_of_cell? w _ hw122_0)).trans hw122_0))⟩ (fun hHeld => ?_)
          clear hK K
          refine norm_ (a' := ?_) ?_ ?_
          rotate_left
          ·show Act.put _ (some 34) _ = _
           simp only [Act.put, List.setIfInBounds_toArray, List.set_cons_zero, List.set_cons_succ, i64_w, i32_w]
           rfl
          refine one_ (i := 7) (N := some 35) #[true, true, true, true, true, true, true, true, false, false] rfl rfl (one_of HT_.out (by kernel_rfl)) (by decide) (fun K hK => ?_)
          refine Kd.R_append_step Kd.string (w0 := w) w.heap.size (by rfl) (.tmp 29) (.tmp 34) 22 9 (.string ⟨#[]⟩) 16 rfl Tryd.underlying22 info9 rfl (by decide) (by omega) (.slice Ao24 t106.length co24) t106 (rdOf ByteArray.empty l0_1 0) [.string (rdOf ByteArray.empty l0_1 0)] (fun k_ => some k_ ≠ (.slice Ao25 t109.length co25 : Value).ownBlock) (fun _ => False) rfl rfl ?aP (fun _ hk => hk.elim) ?aF ?aO ?aB ?aS ?aL ?_
          (case aP => exact rfl)
          (case aB => exact (tg2 HB.out GE101.out GE121.out))
          (case aF => exact (fun k_ hk => Kd.fresh' (Kd.R_lt (tk HO_122002.out)) k_ hk))
          (case aO => exact (tk HO_122001.out))
          (case aS => exact (below_size (tg2 HB.out GE101.out GE121.out)))
          (case aL => have := LMc37.out; omega)
          intro v124 w39 ho hb hg hat
          rw [← Ny123.out] at ho
          have n0_ := Aside0.mk (Kd.R_after (ok := (fun _ => True)) (by (with_reducible repeat (first | apply Kd.R_alloc | apply Kd.R_drewN | apply Kd.R_drew)); exact Kd.R_mono HO_122002.out (fun _ hk => ⟨trivial, hk⟩)) hg hat)
          have n1_ := Aside0.mk (Kd.R_over' (tk HO_122003.out) (Kd.R_typed (tk HO_122001.out)) (by decide) hg)
          have n2_ := Aside0.mk (Kd.R_over' (tk HO_122004.out) (Kd.R_typed (tk HO_122001.out)) (by decide) hg)
          have n3_ := Aside0.mk (Kd.R_over' (tk HO_122005.out) (Kd.R_typed (tk HO_122001.out)) (by decide) hg)
          have n4_ := Aside0.mk (blk_grown (g := gb101) (o := .cells #[.string a0_0, .slice (some ad122) l0_1.length c0_1, .slice A0_2 l0_2.length c0_2, .slice A0_3 l0_3.length c0_3, .slice A0_4 l0_4.length c0_4, .slice A0_5 l0_5.length c0_5] 26 (0, 0)) (tb BK101.out) hg (Kd.R_ne HO_122001.out BK101.out (by decide)))
          have n5_ := Aside0.mk (blk_grown (g := gb121) (o := .cells #[.string t105, .slice Ao24 t106.length co24, .slice Ao25 t109.length co25, .slice Ao26 t112.length co26, .slice Ao27 t115.length co27, .slice Ao28 t118.length co28] 26 (0, 0)) (tb BK121.out) hg (Kd.R_ne HO_122001.out BK121.out (by decide)))
          have n6_ := Aside0.mk (hb)
          have n7_ := Aside0.mk (ho)
          clear HO_122002
          clear HO_122003
          clear HO_122004
          clear HO_122005
          clear BK101
          clear BK121
          clear HB
          clear HO_122001
          have HO_122002 := n0_
          have HO_122003 := n1_
          have HO_122004 := n2_
          have HO_122005 := n3_
          have BK101 := n4_
          have BK121 := n5_
          have HB := n6_
          have HO125 := n7_
          clear n0_ n1_ n2_ n3_ n4_ n5_ n6_ n7_
          clear ho hb hg hat
          obtain ⟨Ao40, co40, eo40⟩ := Kd.R_slice HO125.out
          (first | subst eo40 | (injection eo40 with f1_ f2_ f3_; have f4_ := f1_.symm; have f5_ := f3_.symm; clear f1_ f2_ f3_; subst f4_; subst f5_))
          refine hK.out _ _ ⟨(blk_cell BK121.out 0).trans rfl, (blk_cell BK121.out 1).trans rfl, (blk_cell BK121.out 2).trans rfl, (blk_cell BK121.out 3).trans rfl, (blk_cell BK121.out 4).trans rfl, (blk_cell BK121.out 5).trans rfl, (blk_cell BK101.out 0).trans rfl, (blk_cell BK101.out 1).trans rfl, (blk_cell BK101.out 2).trans rfl, (blk_cell BK101.out 3).trans rfl, (blk_cell BK101.out 4).trans rfl, (blk_cell BK101.out 5).trans rfl, ((HB.out.cell (World.block_lt_of_cell? w _ hw122_0)).trans hw122_0)⟩ (fun hHeld => ?_)
          clear hK K
          refine norm_ (a' := ?_) ?_ ?_
          rotate_left
          ·show Act.put _ (some 35) _ = _
           simp only [Act.put, List.setIfInBounds_toArray, List.set_cons_zero, List.set_cons_succ, i64_w, i32_w]
           rfl
          refine pure_ (i := 8) (N := some 36) (v := ?_) (a' := ?_) #[true, true, true, true, true, true, true, true, true, false] rfl rfl (any_of HT_.out (by kernel_rfl)) (fun _ _ _ h => h) (Or.inl ⟨by rfl, ?_⟩) ?_ ?_
          rotate_left
          ·intro w'
           go_simp
           with_reducible rfl
          rotate_left
          ·simp only [Act.put, List.setIfInBounds_toArray, List.set_cons_zero, List.set_cons_succ, i64_w, i32_w]
           rfl
          refine last_ (i := 9) (N := none) #[true, true, true, true, true, true, true, true, true, true] rfl rfl (one_of HT_.out (by kernel_rfl)) (by decide) (fun K hK => ?_)
          have hs41 := cz BK121.out 1 (.slice Ao24 t106.length co24)
          have hfs41 := blk_frozen BK121.out 1
          have hns41_0 := NB101_121.out
          have hms41_0 := NB121_101.out
          refine skip_ (w1 := ?_) (by rfl) rfl ?_ ?_
          rotate_left
          ·go_simp
           rfl
          refine hK.out _ _ ?_
          clear hK K
          refine done_ (done_of HT_.out (by kernel_rfl)) ?_
          try go_wp2
          go_meet
          case rel => exact ⟨_, (y123), (.slice Ao40 y123.length co40), H', ⟨by have := HJ2.out; have := HJ17.out; first | omega | exact Nat.le_refl _⟩, ⟨by (with_reducible repeat (first | apply Kd.R_alloc | apply Kd.R_drewN | apply Kd.R_drew)); exact Kd.R_mono (Kd.R_far (p := ⟨gb121, 1, none⟩) (Kd.R_types HO125.out BK121.out (by decide)) (fun _ hk => hk.2) (.slice Ao40 y123.length co40)) (fun _ hk => hk.1)⟩, ⟨by (with_reducible repeat (first | apply Kd.R_alloc | apply Kd.R_drewN | apply Kd.R_drew)); exact Kd.R_mono (Kd.R_far (p := ⟨gb121, 1, none⟩) (Kd.R_types HO_122002.out BK121.out (by decide)) (fun _ hk => hk.2) (.slice Ao40 y123.length co40)) (fun _ hk => hk.1.2)⟩, ⟨by (with_reducible repeat (first | apply Kd.R_alloc | apply Kd.R_drewN | apply Kd.R_drew)); exact Kd.R_mono (Kd.R_far (p := ⟨gb121, 1, none⟩) (Kd.R_types HO_122003.out BK121.out (by decide)) (fun _ hk => hk.2) (.slice Ao40 y123.length co40)) (fun _ hk => hk.1)⟩, ⟨by (with_reducible repeat (first | apply Kd.R_alloc | apply Kd.R_drewN | apply Kd.R_drew)); exact Kd.R_mono (Kd.R_far (p := ⟨gb121, 1, none⟩) (Kd.R_types HO_122004.out BK121.out (by decide)) (fun _ hk => hk.2) (.slice Ao40 y123.length co40)) (fun _ hk => hk.1)⟩, ⟨by (with_reducible repeat (first | apply Kd.R_alloc | apply Kd.R_drewN | apply Kd.R_drew)); exact Kd.R_mono (Kd.R_far (p := ⟨gb121, 1, none⟩) (Kd.R_types HO_122005.out BK121.out (by decide)) (fun _ hk => hk.2) (.slice Ao40 y123.length co40)) (fun _ hk => trivial)⟩, ⟨by (with_reducible repeat (first | refine blk_drewN ?_ _ | refine blk_drew ?_ | refine blk_alloc ?_ _)); refine blk_far ?_ NB101_121.out _; (with_reducible repeat (first | refine blk_drewN ?_ _ | refine blk_drew ?_ | refine blk_alloc ?_ _)); exact BK101.out⟩, ⟨by (with_reducible repeat (first | refine blk_drewN ?_ _ | refine blk_drew ?_ | refine blk_alloc ?_ _)); refine blk_put (cs := #[.string t105, .slice Ao24 t106.length co24, .slice Ao25 t109.length co25, .slice Ao26 t112.length co26, .slice Ao27 t115.length co27, .slice Ao28 t118.length co28]) ?_ 1 _ rfl; (with_reducible repeat (first | refine blk_drewN ?_ _ | refine blk_drew ?_ | refine blk_alloc ?_ _)); exact BK121.out⟩, ⟨tg2 HB.out GE101.out GE121.out⟩⟩
         ·rw [if_neg c37] at H
          exact absurd H (by simp)
        ·rw [if_neg c36] at H
         exact absurd H (by simp)
       ·replace c35 := Bool.eq_false_iff.mpr c35
        subst c35
        have H1 : (budwoodlaw11_ValidTwice.j2 kj17 a1 a0_0 l0_1 l0_2 l0_3 l0_4 l0_5 t105 t106 t109 t112 t115 t118) = some r := by rw [if_neg (show ¬ (false = true) by decide)] at H; exact H
        clear H
        have H := H1
        clear H1
        have H' := Aside0.mk H
        clear H
        go_wp2
        go_meet
        case rel => exact ⟨_, (t106), (.slice Ao24 t106.length co24), H', ⟨by have := HJ2.out; have := HJ17.out; first | omega | exact Nat.le_refl _⟩, ⟨by (with_reducible repeat (first | apply Kd.R_alloc | apply Kd.R_drewN | apply Kd.R_drew)); exact HO_122001.out⟩, ⟨by (with_reducible repeat (first | apply Kd.R_alloc | apply Kd.R_drewN | apply Kd.R_drew)); exact HO_122002.out⟩, ⟨by (with_reducible repeat (first | apply Kd.R_alloc | apply Kd.R_drewN | apply Kd.R_drew)); exact HO_122003.out⟩, ⟨by (with_reducible repeat (first | apply Kd.R_alloc | apply Kd.R_drewN | apply Kd.R_drew)); exact HO_122004.out⟩, ⟨by (with_reducible repeat (first | apply Kd.R_alloc | apply Kd.R_drewN | apply Kd.R_drew)); exact HO_122005.out⟩, ⟨by (with_reducible repeat (first | refine blk_drewN ?_ _ | refine blk_drew ?_ | refine blk_alloc ?_ _)); exact BK101.out⟩, ⟨by (with_reducible repeat (first | refine blk_drewN ?_ _ | refine blk_drew ?_ | refine blk_alloc ?_ _)); exact BK121.out⟩, ⟨tg2 HB.out GE101.out GE121.out⟩⟩
      case rest =>
       clear HC34
       try clear c1
       try clear p1
       try clear q1
       try clear hx1
       try clear qi1
       try clear c2
       try clear p2
       try clear c3
       try clear c6
       try clear c6b0
       try clear c7
       try clear p12
       try clear q12
       try clear hx12
       try clear qi12
       try clear c13
       try clear c14
       try clear c15
       try clear c22
       try clear c29
       try clear c29b0
       try clear c29b1
       try clear c30
       try clear c32
       try clear c35
       try clear c36
       try clear c36b0
       try clear c36b1
       try clear c37
       try clear hcz10_0
       try clear hcz10_1
       try clear hcz10_2
       try clear hcz10_3
       try clear hcz10_4
       try clear hcz10_5
       try clear hcz12_0
       try clear hcz12_1
       try clear hcz12_2
       try clear hcz12_3
       try clear hcz12_4
       try clear hcz12_5
       try clear hcz19_0
       try clear hcz19_1
       try clear hcz19_2
       try clear hcz19_3
       try clear hcz19_4
       try clear hcz19_5
       try clear hcz23_0
       try clear hcz23_1
       try clear hcz23_2
       try clear hcz23_3
       try clear hcz23_4
       try clear hcz23_5
       try clear hcz31_0
       try clear hcz31_1
       try clear hcz31_2
       try clear hcz31_3
       try clear hcz31_4
       try clear hcz31_5
       try clear hcz33_0
       try clear hcz33_1
       try clear hcz33_2
       try clear hcz33_3
       try clear hcz33_4
       try clear hcz33_5
       try clear hcz7_0
       try clear hcz7_1
       try clear hcz7_2
       try clear hcz7_3
       try clear hcz7_4
       try clear hcz7_5
       try clear hfz10_0
       try clear hfz10_1
       try clear hfz10_2
       try clear hfz10_3
       try clear hfz10_4
       try clear hfz10_5
       try clear hfz12_0
       try clear hfz12_1
       try clear hfz12_2
       try clear hfz12_3
       try clear hfz12_4
       try clear hfz12_5
       try clear hfz19_0
       try clear hfz19_1
       try clear hfz19_2
       try clear hfz19_3
       try clear hfz19_4
       try clear hfz19_5
       try clear hfz23_0
       try clear hfz23_1
       try clear hfz23_2
       try clear hfz23_3
       try clear hfz23_4
       try clear hfz23_5
       try clear hfz31_0
       try clear hfz31_1
       try clear hfz31_2
       try clear hfz31_3
       try clear hfz31_4
       try clear hfz31_5
       try clear hfz33_0
       try clear hfz33_1
       try clear hfz33_2
       try clear hfz33_3
       try clear hfz33_4
       try clear hfz33_5
       try clear hfz7_0
       try clear hfz7_1
       try clear hfz7_2
       try clear hfz7_3
       try clear hfz7_4
       try clear hfz7_5
       try clear hx122_0
       try clear p122
       try clear p2
       try clear q122
       obtain ⟨kq, x122001_33, u122001, HA, HJ33, HO_122001, HO_122002, HO_122003, HO_122004, HO_122005, BK101, BK121, HB⟩ := hcut
       cases kq with
       | zero => exact absurd HA.out (by simp [budwoodlaw11_ValidTwice.j2])
       | succ kj33 =>
        have H := HA.out
        clear HA
        simp only [budwoodlaw11_ValidTwice.j2] at H
        have HC42 := Aside0.mk H
        clear H
        go_upto_region 6 with (fail)
        go_cut [45] (fun v45 wc => ∃ (kq : Nat) (x45_41 : Bool), v45 = .bool x45_41 ∧ Aside0 (budwoodlaw11_ValidTwice.j3 kq a1 x45_41 a0_0 l0_1 l0_2 l0_3 l0_4 l0_5 t105 x122001_33 t109 t112 t115 t118 = some r) ∧ Aside0 (kq ≤ kj33) ∧ Aside0 (Kd.R Kd.string 9 wc w.heap.size (fun k_ => some k_ ≠ ((.slice Ao25 t109.length co25) : Value).ownBlock) u122001 x122001_33) ∧ Aside0 (Kd.R Kd.string 9 wc w.heap.size (fun k_ => some k_ ≠ (u122001 : Value).ownBlock) (.slice Ao25 t109.length co25) t109) ∧ Aside0 (Kd.R (Kd.int .u32) 44 wc w.heap.size (fun k_ => some k_ ≠ ((.slice Ao27 t115.length co27) : Value).ownBlock) (.slice Ao26 t112.length co26) t112) ∧ Aside0 (Kd.R (Kd.int .u32) 44 wc w.heap.size (fun k_ => some k_ ≠ ((.slice Ao26 t112.length co26) : Value).ownBlock) (.slice Ao27 t115.length co27) t115) ∧ Aside0 (Kd.R k43 43 wc w.heap.size (fun _ => True) (.slice Ao28 t118.length co28) t118) ∧ Aside0 (wc.heap[gb101]? = some (.cells #[.string a0_0, (.slice A0_1 l0_1.length c0_1), (.slice A0_2 l0_2.length c0_2), (.slice A0_3 l0_3.length c0_3), (.slice A0_4 l0_4.length c0_4), (.slice A0_5 l0_5.length c0_5)] 26 (0, 0))) ∧ Aside0 (wc.heap[gb121]? = some (.cells #[.string t105, u122001, (.slice Ao25 t109.length co25), (.slice Ao26 t112.length co26), (.slice Ao27 t115.length co27), (.slice Ao28 t118.length co28)] 26 (0, 0))) ∧ Aside0 (Below w.heap.size w wc))
        case first =>
         have H := HC42.out
         clear HC42
         by_cases c43 : (l0_2.length : Int) > 0
         ·rw [if_pos c43] at H
          have c43b0 : decide (0 < (l0_2.length : Int)) = true := decide_eq_true c43
          have c43b1 : decide (0 < l0_2.length) = true := decide_eq_true (by omega)
          clear c43
          (first | rw [c43b0] | (simp only [i64_w, i32_w]; rw [c43b0]) | skip)
          have H' := Aside0.mk H
          clear H
          have hnb44 := NB101_121.out
          have hnc44 := NB121_101.out
          have hcz45_0 := cz BK101.out 0 (.string a0_0)
          have hcz45_1 := cz BK101.out 1 (.slice A0_1 l0_1.length c0_1)
          have hcz45_2 := cz BK101.out 2 (.slice A0_2 l0_2.length c0_2)
          have hcz45_3 := cz BK101.out 3 (.slice A0_3 l0_3.length c0_3)
          have hcz45_4 := cz BK101.out 4 (.slice A0_4 l0_4.length c0_4)
          have hcz45_5 := cz BK101.out 5 (.slice A0_5 l0_5.length c0_5)
          have hfz45_0 := blk_frozen BK101.out 0
          have hfz45_1 := blk_frozen BK101.out 1
          have hfz45_2 := blk_frozen BK101.out 2
          have hfz45_3 := blk_frozen BK101.out 3
          have hfz45_4 := blk_frozen BK101.out 4
          have hfz45_5 := blk_frozen BK101.out 5
          go_wp2
          go_meet
          case rel => exact ⟨_, (((Int.tmod a1 3) == 1)), (by first | rfl | (simp; done) | (simp [*]; done)), H', ⟨by have := HJ2.out; have := HJ17.out; have := HJ33.out; first | omega | exact Nat.le_refl _⟩, ⟨by (with_reducible repeat (first | apply Kd.R_alloc | apply Kd.R_drewN | apply Kd.R_drew)); exact HO_122001.out⟩, ⟨by (with_reducible repeat (first | apply Kd.R_alloc | apply Kd.R_drewN | apply Kd.R_drew)); exact HO_122002.out⟩, ⟨by (with_reducible repeat (first | apply Kd.R_alloc | apply Kd.R_drewN | apply Kd.R_drew)); exact HO_122003.out⟩, ⟨by (with_reducible repeat (first | apply Kd.R_alloc | apply Kd.R_drewN | apply Kd.R_drew)); exact HO_122004.out⟩, ⟨by (with_reducible repeat (first | apply Kd.R_alloc | apply Kd.R_drewN | apply Kd.R_drew)); exact HO_122005.out⟩, ⟨by (with_reducible repeat (first | refine blk_drewN ?_ _ | refine blk_drew ?_ | refine blk_alloc ?_ _)); exact BK101.out⟩, ⟨by (with_reducible repeat (first | refine blk_drewN ?_ _ | refine blk_drew ?_ | refine blk_alloc ?_ _)); exact BK121.out⟩, ⟨tg2 HB.out GE101.out GE121.out⟩⟩
         ·rw [if_neg c43] at H
          have c43b0 : decide (0 < (l0_2.length : Int)) = false := decide_eq_false c43
          have c43b1 : decide (0 < l0_2.length) = false := decide_eq_false (by omega)
          clear c43
          (first | rw [c43b0] | (simp only [i64_w, i32_w]; rw [c43b0]) | skip)
          have H' := Aside0.mk H
          clear H
          have hnb46 := NB101_121.out
          have hnc46 := NB121_101.out
          have hcz47_0 := cz BK101.out 0 (.string a0_0)
          have hcz47_1 := cz BK101.out 1 (.slice A0_1 l0_1.length c0_1)
          have hcz47_2 := cz BK101.out 2 (.slice A0_2 l0_2.length c0_2)
          have hcz47_3 := cz BK101.out 3 (.slice A0_3 l0_3.length c0_3)
          have hcz47_4 := cz BK101.out 4 (.slice A0_4 l0_4.length c0_4)
          have hcz47_5 := cz BK101.out 5 (.slice A0_5 l0_5.length c0_5)
          have hfz47_0 := blk_frozen BK101.out 0
          have hfz47_1 := blk_frozen BK101.out 1
          have hfz47_2 := blk_frozen BK101.out 2
          have hfz47_3 := blk_frozen BK101.out 3
          have hfz47_4 := blk_frozen BK101.out 4
          have hfz47_5 := blk_frozen BK101.out 5
          go_wp2
          go_meet
          case rel => exact ⟨_, (false), (by first | rfl | (simp; done) | (simp [*]; done)), H', ⟨by have := HJ2.out; have := HJ17.out; have := HJ33.out; first | omega | exact Nat.le_refl _⟩, ⟨by (with_reducible repeat (first | apply Kd.R_alloc | apply Kd.R_drewN | apply Kd.R_drew)); exact HO_122001.out⟩, ⟨by (with_reducible repeat (first | apply Kd.R_alloc | apply Kd.R_drewN | apply Kd.R_drew)); exact HO_122002.out⟩, ⟨by (with_reducible repeat (first | apply Kd.R_alloc | apply Kd.R_drewN | apply Kd.R_drew)); exact HO_122003.out⟩, ⟨by (with_reducible repeat (first | apply Kd.R_alloc | apply Kd.R_drewN | apply Kd.R_drew)); exact HO_122004.out⟩, ⟨by (with_reducible repeat (first | apply Kd.R_alloc | apply Kd.R_drewN | apply Kd.R_drew)); exact HO_122005.out⟩, ⟨by (with_reducible repeat (first | refine blk_drewN ?_ _ | refine blk_drew ?_ | refine blk_alloc ?_ _)); exact BK101.out⟩, ⟨by (with_reducible repeat (first | refine blk_drewN ?_ _ | refine blk_drew ?_ | refine blk_alloc ?_ _)); exact BK121.out⟩, ⟨tg2 HB.out GE101.out GE121.out⟩⟩
        case rest =>
         clear HC42
         try clear c1
         try clear p1
         try clear q1
         try clear hx1
         try clear qi1
         try clear c2
         try clear p2
         try clear c3
         try clear c4
         try clear c6
         try clear c6b0
         try clear c7
         try clear p12
         try clear q12
         try clear hx12
         try clear qi12
         try clear c13
         try clear c14
         try clear c15
         try clear c22
         try clear c29
         try clear c29b0
         try clear c29b1
         try clear c30
         try clear c32
         try clear c35
         try clear c36
         try clear c36b0
         try clear c36b1
         try clear c37
         try clear c43
         try clear c43b0
         try clear c43b1
         try clear c44
         try clear c46
         try clear hcz10_0
         try clear hcz10_1
         try clear hcz10_2
         try clear hcz10_3
         try clear hcz10_4
         try clear hcz10_5
         try clear hcz12_0
         try clear hcz12_1
         try clear hcz12_2
         try clear hcz12_3
         try clear hcz12_4
         try clear hcz12_5
         try clear hcz19_0
         try clear hcz19_1
         try clear hcz19_2
         try clear hcz19_3
         try clear hcz19_4
         try clear hcz19_5
         try clear hcz23_0
         try clear hcz23_1
         try clear hcz23_2
         try clear hcz23_3
         try clear hcz23_4
         try clear hcz23_5
         try clear hcz31_0
         try clear hcz31_1
         try clear hcz31_2
         try clear hcz31_3
         try clear hcz31_4
         try clear hcz31_5
         try clear hcz33_0
         try clear hcz33_1
         try clear hcz33_2
         try clear hcz33_3
         try clear hcz33_4
         try clear hcz33_5
         try clear hcz45_0
         try clear hcz45_1
         try clear hcz45_2
         try clear hcz45_3
         try clear hcz45_4
         try clear hcz45_5
         try clear hcz47_0
         try clear hcz47_1
         try clear hcz47_2
         try clear hcz47_3
         try clear hcz47_4
         try clear hcz47_5
         try clear hcz7_0
         try clear hcz7_1
         try clear hcz7_2
         try clear hcz7_3
         try clear hcz7_4
         try clear hcz7_5
         try clear hfz10_0
         try clear hfz10_1
         try clear hfz10_2
         try clear hfz10_3
         try clear hfz10_4
         try clear hfz10_5
         try clear hfz12_0
         try clear hfz12_1
         try clear hfz12_2
         try clear hfz12_3
         try clear hfz12_4
         try clear hfz12_5
         try clear hfz19_0
         try clear hfz19_1
         try clear hfz19_2
         try clear hfz19_3
         try clear hfz19_4
         try clear hfz19_5
         try clear hfz23_0
         try clear hfz23_1
         try clear hfz23_2
         try clear hfz23_3
         try clear hfz23_4
         try clear hfz23_5
         try clear hfz31_0
         try clear hfz31_1
         try clear hfz31_2
         try clear hfz31_3
         try clear hfz31_4
         try clear hfz31_5
         try clear hfz33_0
         try clear hfz33_1
         try clear hfz33_2
         try clear hfz33_3
         try clear hfz33_4
         try clear hfz33_5
         try clear hfz45_0
         try clear hfz45_1
         try clear hfz45_2
         try clear hfz45_3
         try clear hfz45_4
         try clear hfz45_5
         try clear hfz47_0
         try clear hfz47_1
         try clear hfz47_2
         try clear hfz47_3
         try clear hfz47_4
         try clear hfz47_5
         try clear hfz7_0
         try clear hfz7_1
         try clear hfz7_2
         try clear hfz7_3
         try clear hfz7_4
         try clear hfz7_5
         try clear hx122_0
         try clear p1
         try clear p12
         try clear p122
         try clear p2
         try clear q1
         try clear q12
         try clear q122
         obtain ⟨kq, x45_41, rfl, HA, HJ41, HO_122001, HO_122002, HO_122003, HO_122004, HO_122005, BK101, BK121, HB⟩ := hcut
         cases kq with
         | zero => exact absurd HA.out (by simp [budwoodlaw11_ValidTwice.j3])
         | succ kj41 =>
          have H := HA.out
          clear HA
          simp only [budwoodlaw11_ValidTwice.j3] at H
          have HC48 := Aside0.mk H
          clear H
          go_upto_if 45 with (fail)
          go_cut [] (fun wc => ∃ (kq : Nat) (x122002_47 : List ByteArray) (u122002 : Value), Aside0 (budwoodlaw11_ValidTwice.j4 kq a1 a0_0 l0_1 l0_2 l0_3 l0_4 l0_5 t105 x122001_33 x122002_47 t112 t115 t118 = some r) ∧ Aside0 (kq ≤ kj41) ∧ Aside0 (Kd.R Kd.string 9 wc w.heap.size (fun k_ => some k_ ≠ (u122002 : Value).ownBlock) u122001 x122001_33) ∧ Aside0 (Kd.R Kd.string 9 wc w.heap.size (fun k_ => some k_ ≠ (u122001 : Value).ownBlock) u122002 x122002_47) ∧ Aside0 (Kd.R (Kd.int .u32) 44 wc w.heap.size (fun k_ => some k_ ≠ ((.slice Ao27 t115.length co27) : Value).ownBlock) (.slice Ao26 t112.length co26) t112) ∧ Aside0 (Kd.R (Kd.int .u32) 44 wc w.heap.size (fun k_ => some k_ ≠ ((.slice Ao26 t112.length co26) : Value).ownBlock) (.slice Ao27 t115.length co27) t115) ∧ Aside0 (Kd.R k43 43 wc w.heap.size (fun _ => True) (.slice Ao28 t118.length co28) t118) ∧ Aside0 (wc.heap[gb101]? = some (.cells #[.string a0_0, (.slice A0_1 l0_1.length c0_1), (.slice A0_2 l0_2.length c0_2), (.slice A0_3 l0_3.length c0_3), (.slice A0_4 l0_4.length c0_4), (.slice A0_5 l0_5.length c0_5)] 26 (0, 0))) ∧ Aside0 (wc.heap[gb121]? = some (.cells #[.string t105, u122001, u122002, (.slice Ao26 t112.length co26), (.slice Ao27 t115.length co27), (.slice Ao28 t118.length co28)] 26 (0, 0))) ∧ Aside0 (Below w.heap.size w wc))
          case first =>
           have H := HC48.out
           clear HC48
           by_cases c49 : x45_41 = true
           ·subst c49
            have H1 : (if 0 < (l0_2.length : Int) then (if t109.length < 8796093022208 then (budwoodlaw11_ValidTwice.j4 kj41 a1 a0_0 l0_1 l0_2 l0_3 l0_4 l0_5 t105 x122001_33 (t109 ++ [rdOf ByteArray.empty l0_2 0]) t112 t115 t118) else (none)) else (none)) = some r := by rw [if_pos rfl] at H; exact H
            clear H
            have H := H1
            clear H1
            by_cases c50 : 0 < (l0_2.length : Int)
            ·rw [if_pos c50] at H
             have c50b0 : decide (0 < (l0_2.length : Int)) = true := decide_eq_true c50
             have c50b1 : decide (0 < l0_2.length) = true := decide_eq_true (by omega)
             clear c50
             (first | rw [c50b0] | (simp only [i64_w, i32_w]; rw [c50b0]) | skip)
             by_cases c51 : t109.length < 8796093022208
             ·rw [if_pos c51] at H
              have LMc51 := Aside0.mk c51
              clear c51
              obtain ⟨y127, hy127⟩ : ∃ y_ : List ByteArray, y_ = (t109 ++ [rdOf ByteArray.empty l0_2 0]) := ⟨_, rfl⟩
              replace H : (budwoodlaw11_ValidTwice.j4 kj41 a1 a0_0 l0_1 l0_2 l0_3 l0_4 l0_5 t105 x122001_33 y127 t112 t115 t118) = some r := by first | (rw [hy127]; with_reducible exact H) | (have H2_ := (Option.bind_some _ _).symm.trans H; rw [hy127]; with_reducible exact H2_) | (have H2_ := (Option.bind_some _ _).symm.trans H; with_reducible exact H2_) | with_reducible exact H | (rw [hy127]; exact H) | exact H
              have Ny127 := Aside0.mk hy127
              clear hy127
              have H' := Aside0.mk H
              clear H
              try go_wp2
              replace HO_122001 := Aside0.mk (Kd.R_drew HO_122001.out)
              replace HO_122002 := Aside0.mk (Kd.R_drew HO_122002.out)
              replace HO_122003 := Aside0.mk (Kd.R_drew HO_122003.out)
              replace HO_122004 := Aside0.mk (Kd.R_drew HO_122004.out)
              replace HO_122005 := Aside0.mk (Kd.R_drew HO_122005.out)
              replace BK101 := Aside0.mk (blk_drew BK101.out)
              replace BK121 := Aside0.mk (blk_drew BK121.out)
              replace HB := Aside0.mk (below_drew1 HB.out)
              have p126 : 0 ≤ (0 : Int) := (by omega)
              have q126 : 0 < (l0_2.length : Int) := of_decide_eq_true (by first | (with_reducible assumption) | assumption)
              obtain ⟨ad126, e126, hx126_0⟩ := Kd.at_string HR0_2.out 0 p126 q126
              have hw126_0 := hx126_0
              (try rw [show ((0 : Int)).toNat = 0 from rfl] at hw126_0)
              (try rw [show 0 * 1 = 0 from rfl] at hw126_0)
              (try rw [Addr.add_zero'] at hw126_0)
              cases e126
              have qi126 : (0 < l0_2.length) = True := eq_true (by omega)
              (try rw [show ((0 : Int)).toNat = 0 from rfl] at hx126_0)
              (try rw [Addr.add_zero'] at hx126_0)
              replace hx126_0 := (HB.out.cell (World.block_lt_of_cell? w _ hx126_0)).trans hx126_0
              replace p126 := eq_true p126
              replace q126 := eq_true q126
              refine start_ (n := 10) (S := fun w' => w'.cell? ⟨gb121, 0, none⟩ = some (.string t105) ∧ w'.cell? ⟨gb121, 1, none⟩ = some (u122001) ∧ w'.cell? ⟨gb121, 2, none⟩ = some (.slice Ao25 t109.length co25) ∧ w'.cell? ⟨gb121, 3, none⟩ = some (.slice Ao26 t112.length co26) ∧ w'.cell? ⟨gb121, 4, none⟩ = some (.slice Ao27 t115.length co27) ∧ w'.cell? ⟨gb121, 5, none⟩ = some (.slice Ao28 t118.length co28) ∧ w'.cell? ⟨gb101, 0, none⟩ = some (.string a0_0) ∧ w'.cell? ⟨gb101, 1, none⟩ = some (.slice A0_1 l0_1.length c0_1) ∧ w'.cell? ⟨gb101, 2, none⟩ = some (.slice (some ad126) l0_2.length c0_2) ∧ w'.cell? ⟨gb101, 3, none⟩ = some (.slice A0_3 l0_3.length c0_3) ∧ w'.cell? ⟨gb101, 4, none⟩ = some (.slice A0_4 l0_4.length c0_4) ∧ w'.cell? ⟨gb101, 5, none⟩ = some (.slice A0_5 l0_5.length c0_5) ∧ w'.cell? ad126 = some (.string (rdOf ByteArray.empty l0_2 0))) (ds := [9]) #[false, false, false, false, false, false, false, false, false, false] (by kernel_rfl) rfl rfl ⟨(blk_cell BK121.out 0).trans rfl, (blk_cell BK121.out 1).trans rfl, (blk_cell BK121.out 2).trans rfl, (blk_cell BK121.out 3).trans rfl, (blk_cell BK121.out 4).trans rfl, (blk_cell BK121.out 5).trans rfl, (blk_cell BK101.out 0).trans rfl, (blk_cell BK101.out 1).trans rfl, (blk_cell BK101.out 2).trans rfl, (blk_cell BK101.out 3).trans rfl, (blk_cell BK101.out 4).trans rfl, (blk_cell BK101.out 5).trans rfl, ((HB.out.cell (World.block_lt_of_cell? w _ hw126_0)).trans hw126_0)⟩ (fun hHeld => ?_); refine with_tabW budwoodlaw11_ValidTwice.tab7 budwoodlaw11_ValidTwice.bits7 (fun HT_ HW_ => ?_)
              generalize wc.drew = w52 at HO_122001 HO_122002 HO_122003 HO_122004 HO_122005 BK101 BK121 HB hx126_0 hHeld ⊢
              refine pure_ (i := 0) (N := some 46) (v := ?_) (a' := ?_) #[true, false, false, false, false, false, false, false, false, false] rfl rfl (any_of HT_.out (by kernel_rfl)) (fun _ _ _ h => h) (Or.inl ⟨by rfl, ?_⟩) ?_ ?_
              rotate_left
              ·intro w'
               go_simp
               with_reducible rfl
              rotate_left
              ·simp only [Act.put, List.setIfInBounds_toArray, List.set_cons_zero, List.set_cons_succ, i64_w, i32_w]
               rfl
              refine pure_ (i := 2) (N := some 48) (v := ?_) (a' := ?_) #[true, false, true, false, false, false, false, false, false, false] rfl rfl (any_of HT_.out (by kernel_rfl)) (fun _ _ _ h => h) (Or.inl ⟨by rfl, ?_⟩) ?_ ?_
              rotate_left
              ·intro w'
               go_simp
               with_reducible rfl
              rotate_left
              ·simp only [Act.put, List.setIfInBounds_toArray, List.set_cons_zero, List.set_cons_succ, i64_w, i32_w]
               rfl
              refine take_ (i := 1) (N := some 47) (v := ?_) (a' := ?_) #[true, true, true, false, false, false, false, false, false, false] rfl rfl (take_ofW HT_.out HW_.out (by kernel_rfl)) (fun _ _ _ h => h) (Or.inl ⟨by rfl, ?_⟩) hHeld ?_ ?_
              rotate_left
              ·rintro w' ⟨s0, s1, s2, s3, s4, s5, s6, s7, s8, s9, s10, s11, s12⟩
               go_simp
               with_reducible rfl
              rotate_left
              ·simp only [Act.put, List.setIfInBounds_toArray, List.set_cons_zero, List.set_cons_succ, i64_w, i32_w]
               rfl
              refine take_ (i := 3) (N := some 49) (v := ?_) (a' := ?_) #[true, true, true, true, false, false, false, false, false, false] rfl rfl (take_ofW HT_.out HW_.out (by kernel_rfl)) (fun _ _ _ h => h) (Or.inl ⟨by rfl, ?_⟩) hHeld ?_ ?_
              rotate_left
              ·rintro w' ⟨s0, s1, s2, s3, s4, s5, s6, s7, s8, s9, s10, s11, s12⟩
               go_simp
               with_reducible rfl
              rotate_left
              ·simp only [Act.put, List.setIfInBounds_toArray, List.set_cons_zero, List.set_cons_succ, i64_w, i32_w]
               rfl
              refine pure_ (i := 4) (N := some 50) (v := ?_) (a' := ?_) #[true, true, true, true, true, false, false, false, false, false] rfl rfl (any_of HT_.out (by kernel_rfl)) (fun _ _ _ h => h) (Or.inl ⟨by rfl, ?_⟩) ?_ ?_
              rotate_left
              ·intro w'
               go_simp
               with_reducible rfl
              rotate_left
              ·simp only [Act.put, List.setIfInBounds_toArray, List.set_cons_zero, List.set_cons_succ, i64_w, i32_w]
               rfl
              refine take_ (i := 5) (N := some 51) (v := ?_) (a' := ?_) #[true, true, true, true, true, true, false, false, false, false] rfl rfl (take_ofW HT_.out HW_.out (by kernel_rfl)) (fun _ _ _ h => h) (Or.inl ⟨by rfl, ?_⟩) hHeld ?_ ?_
              rotate_left
              ·rintro w' ⟨s0, s1, s2, s3, s4, s5, s6, s7, s8, s9, s10, s11, s12⟩
               go_simp
               with_reducible rfl
              rotate_left
              ·simp only [Act.put, List.setIfInBounds_toArray, List.set_cons_zero, List.set_cons_succ, i64_w, i32_w]
               rfl
              refine one_ (i := 6) (N := some 52) #[true, true, true, true, true, true, true, false, false, false] rfl rfl (one_of HT_.out (by kernel_rfl)) (by decide) (fun K hK => ?_)
              refine value_ (w1 := ?_) (v := ?_) (by rfl) rfl ?_ ?_
              rotate_left 2
              ·go_simp
               constructor
               ·rfl
               ·rfl
              refine hK.out _ _ ⟨(blk_cell (blk_alloc BK121.out _) 0).trans rfl, (blk_cell (blk_alloc BK121.out _) 1).trans rfl, (blk_cell (blk_alloc BK121.out _) 2).trans rfl, (blk_cell (blk_alloc BK121.out _) 3).trans rfl, (blk_cell (blk_alloc BK121.out _) 4).trans rfl, (blk_cell (blk_alloc BK121.out _) 5).trans rfl, (blk_cell (blk_alloc BK101.out _) 0).trans rfl, (blk_cell (blk_alloc BK101.out _) 1).trans rfl, (blk_cell (blk_alloc BK101.out _) 2).trans rfl, (blk_cell (blk_alloc BK101.out _) 3).trans rfl, (blk_cell (blk_alloc BK101.out _) 4).trans rfl, (blk_cell (blk_alloc BK101.out _) 5).trans rfl, (World.cell?_alloc_lt _ _ _ (World.block_lt_of_cell? _ _ (((HB.out.cell (World.block_lt_of_cell? w _ hw126_0)).trans hw126_0)))).trans (((HB.out.cell (World.block_lt_of_cell? w _ hw126_0)).trans hw126_0))⟩ (fun hHeld => ?_)
              clear hK K
              refine norm_ (a' := ?_) ?_ ?_
              rotate_left
              ·show Act.put _ (some 52) _ = _
               simp only [Act.put, List.setIfInBounds_toArray, List.set_cons_zero, List.set_cons_succ, i64_w, i32_w]
               rfl
              refine one_ (i := 7) (N := some 53) #[true, true, true, true, true, true, true, true, false, false] rfl rfl (one_of HT_.out (by kernel_rfl)) (by decide) (fun K hK => ?_)
              refine Kd.R_append_step Kd.string (w0 := w) w.heap.size (by rfl) (.tmp 47) (.tmp 52) 22 9 (.string ⟨#[]⟩) 16 rfl Tryd.underlying22 info9 rfl (by decide) (by omega) (.slice Ao25 t109.length co25) t109 (rdOf ByteArray.empty l0_2 0) [.string (rdOf ByteArray.empty l0_2 0)] (fun k_ => some k_ ≠ (u122001 : Value).ownBlock) (fun _ => False) rfl rfl ?aP (fun _ hk => hk.elim) ?aF ?aO ?aB ?aS ?aL ?_
              (case aP => exact rfl)
              (case aB => exact (tg2 HB.out GE101.out GE121.out))
              (case aF => exact (fun k_ hk => Kd.fresh' (Kd.R_lt (tk HO_122001.out)) k_ hk))
              (case aO => exact (tk HO_122002.out))
              (case aS => exact (below_size (tg2 HB.out GE101.out GE121.out)))
              (case aL => have := LMc51.out; omega)
              intro v128 w53 ho hb hg hat
              rw [← Ny127.out] at ho
              have n0_ := Aside0.mk (Kd.R_after (ok := (fun _ => True)) (by (with_reducible repeat (first | apply Kd.R_alloc | apply Kd.R_drewN | apply Kd.R_drew)); exact Kd.R_mono HO_122001.out (fun _ hk => ⟨trivial, hk⟩)) hg hat)
              have n1_ := Aside0.mk (Kd.R_over' (tk HO_122003.out) (Kd.R_typed (tk HO_122002.out)) (by decide) hg)
              have n2_ := Aside0.mk (Kd.R_over' (tk HO_122004.out) (Kd.R_typed (tk HO_122002.out)) (by decide) hg)
              have n3_ := Aside0.mk (Kd.R_over' (tk HO_122005.out) (Kd.R_typed (tk HO_122002.out)) (by decide) hg)
              have n4_ := Aside0.mk (blk_grown (g := gb101) (o := .cells #[.string a0_0, .slice A0_1 l0_1.length c0_1, .slice (some ad126) l0_2.length c0_2, .slice A0_3 l0_3.length c0_3, .slice A0_4 l0_4.length c0_4, .slice A0_5 l0_5.length c0_5] 26 (0, 0)) (tb BK101.out) hg (Kd.R_ne HO_122002.out BK101.out (by decide)))
              have n5_ := Aside0.mk (blk_grown (g := gb121) (o := .cells #[.string t105, u122001, .slice Ao25 t109.length co25, .slice Ao26 t112.length co26, .slice Ao27 t115.length co27, .slice Ao28 t118.length co28] 26 (0, 0)) (tb BK121.out) hg (Kd.R_ne HO_122002.out BK121.out (by decide)))
              have n6_ := Aside0.mk (hb)
              have n7_ := Aside0.mk (ho)
              clear HO_122001
              clear HO_122003
              clear HO_122004
              clear HO_122005
              clear BK101
              clear BK121
              clear HB
              clear HO_122002
              have HO_122001 := n0_
              have HO_122003 := n1_
              have HO_122004 := n2_
              have HO_122005 := n3_
              have BK101 := n4_
              have BK121 := n5_
              have HB := n6_
              have HO129 := n7_
              clear n0_ n1_ n2_ n3_ n4_ n5_ n6_ n7_
              clear ho hb hg hat
              obtain ⟨Ao54, co54, eo54⟩ := Kd.R_slice HO129.out
              (first | subst eo54 | (injection eo54 with f1_ f2_ f3_; have f4_ := f1_.symm; have f5_ := f3_.symm; clear f1_ f2_ f3_; subst f4_; subst f5_))
              refine hK.out _ _ ⟨(blk_cell BK121.out 0).trans rfl, (blk_cell BK121.out 1).trans rfl, (blk_cell BK121.out 2).trans rfl, (blk_cell BK121.out 3).trans rfl, (blk_cell BK121.out 4).trans rfl, (blk_cell BK121.out 5).trans rfl, (blk_cell BK101.out 0).trans rfl, (blk_cell BK101.out 1).trans rfl, (blk_cell BK101.out 2).trans rfl, (blk_cell BK101.out 3).trans rfl, (blk_cell BK101.out 4).trans rfl, (blk_cell BK101.out 5).trans rfl, ((HB.out.cell (World.block_lt_of_cell? w _ hw126_0)).trans hw126_0)⟩ (fun hHeld => ?_)
              clear hK K
              refine norm_ (a' := ?_) ?_ ?_
              rotate_left
              ·show Act.put _ (some 53) _ = _
               simp only [Act.put, List.setIfInBounds_toArray, List.set_cons_zero, List.set_cons_succ, i64_w, i32_w]
               rfl
              refine pure_ (i := 8) (N := some 54) (v := ?_) (a' := ?_) #[true, true, true, true, true, true, true, true, true, false] rfl rfl (any_of HT_.out (by kernel_rfl)) (fun _ _ _ h => h) (Or.inl ⟨by rfl, ?_⟩) ?_ ?_
              rotate_left
              ·intro w'
               go_simp
               with_reducible rfl
              rotate_left
              ·simp only [Act.put, List.setIfInBounds_toArray, List.set_cons_zero, List.set_cons_succ, i64_w, i32_w]
               rfl
              refine last_ (i := 9) (N := none) #[true, true, true, true, true, true, true, true, true, true] rfl rfl (one_of HT_.out (by kernel_rfl)) (by decide) (fun K hK => ?_)
              have hs55 := cz BK121.out 2 (.slice Ao25 t109.length co25)
              have hfs55 := blk_frozen BK121.out 2
              have hns55_0 := NB101_121.out
              have hms55_0 := NB121_101.out
              refine skip_ (w1 := ?_) (by rfl) rfl ?_ ?_
              rotate_left
              ·go_simp
               rfl
              refine hK.out _ _ ?_
              clear hK K
              refine done_ (done_of HT_.out (by kernel_rfl)) ?_
              try go_wp2
              go_meet
              case rel => exact ⟨_, (y127), (.slice Ao54 y127.length co54), H', ⟨by have := HJ2.out; have := HJ17.out; have := HJ33.out; have := HJ41.out; first | omega | exact Nat.le_refl _⟩, ⟨by (with_reducible repeat (first | apply Kd.R_alloc | apply Kd.R_drewN | apply Kd.R_drew)); exact Kd.R_mono (Kd.R_far (p := ⟨gb121, 2, none⟩) (Kd.R_types HO_122001.out BK121.out (by decide)) (fun _ hk => hk.2) (.slice Ao54 y127.length co54)) (fun _ hk => hk.1.2)⟩, ⟨by (with_reducible repeat (first | apply Kd.R_alloc | apply Kd.R_drewN | apply Kd.R_drew)); exact Kd.R_mono (Kd.R_far (p := ⟨gb121, 2, none⟩) (Kd.R_types HO129.out BK121.out (by decide)) (fun _ hk => hk.2) (.slice Ao54 y127.length co54)) (fun _ hk => hk.1)⟩, ⟨by (with_reducible repeat (first | apply Kd.R_alloc | apply Kd.R_drewN | apply Kd.R_drew)); exact Kd.R_mono (Kd.R_far (p := ⟨gb121, 2, none⟩) (Kd.R_types HO_122003.out BK121.out (by decide)) (fun _ hk => hk.2) (.slice Ao54 y127.length co54)) (fun _ hk => hk.1)⟩, ⟨by (with_reducible repeat (first | apply Kd.R_alloc | apply Kd.R_drewN | apply Kd.R_drew)); exact Kd.R_mono (Kd.R_far (p := ⟨gb121, 2, none⟩) (Kd.R_types HO_122004.out BK121.out (by decide)) (fun _ hk => hk.2) (.slice Ao54 y127.length co54)) (fun _ hk => hk.1)⟩, ⟨by (with_reducible repeat (first | apply Kd.R_alloc | apply Kd.R_drewN | apply Kd.R_drew)); exact Kd.R_mono (Kd.R_far (p := ⟨gb121, 2, none⟩) (Kd.R_types HO_122005.out BK121.out (by decide)) (fun _ hk => hk.2) (.slice Ao54 y127.length co54)) (fun _ hk => trivial)⟩, ⟨by (with_reducible repeat (first | refine blk_drewN ?_ _ | refine blk_drew ?_ | refine blk_alloc ?_ _)); refine blk_far ?_ NB101_121.out _; (with_reducible repeat (first | refine blk_drewN ?_ _ | refine blk_drew ?_ | refine blk_alloc ?_ _)); exact BK101.out⟩, ⟨by (with_reducible repeat (first | refine blk_drewN ?_ _ | refine blk_drew ?_ | refine blk_alloc ?_ _)); refine blk_put (cs := #[.string t105, u122001, .slice Ao25 t109.length co25, .slice Ao26 t112.length co26, .slice Ao27 t115.length co27, .slice Ao28 t118.length co28]) ?_ 2 _ rfl; (with_reducible repeat (first | refine blk_drewN ?_ _ | refine blk_drew ?_ | refine blk_alloc ?_ _)); exact BK121.out⟩, ⟨tg2 HB.out GE101.out GE121.out⟩⟩
             ·rw [if_neg c51] at H
              exact absurd H (by simp)
            ·rw [if_neg c50] at H
             exact absurd H (by simp)
           ·replace c49 := Bool.eq_false_iff.mpr c49
            subst c49
            have H1 : (budwoodlaw11_ValidTwice.j4 kj41 a1 a0_0 l0_1 l0_2 l0_3 l0_4 l0_5 t105 x122001_33 t109 t112 t115 t118) = some r := by rw [if_neg (show ¬ (false = true) by decide)] at H; exact H
            clear H
            have H := H1
            clear H1
            have H' := Aside0.mk H
            clear H
            go_wp2
            go_meet
            case rel => exact ⟨_, (t109), (.slice Ao25 t109.length co25), H', ⟨by have := HJ2.out; have := HJ17.out; have := HJ33.out; have := HJ41.out; first | omega | exact Nat.le_refl _⟩, ⟨by (with_reducible repeat (first | apply Kd.R_alloc | apply Kd.R_drewN | apply Kd.R_drew)); exact HO_122001.out⟩, ⟨by (with_reducible repeat (first | apply Kd.R_alloc | apply Kd.R_drewN | apply Kd.R_drew)); exact HO_122002.out⟩, ⟨by (with_reducible repeat (first | apply Kd.R_alloc | apply Kd.R_drewN | apply Kd.R_drew)); exact HO_122003.out⟩, ⟨by (with_reducible repeat (first | apply Kd.R_alloc | apply Kd.R_drewN | apply Kd.R_drew)); exact HO_122004.out⟩, ⟨by (with_reducible repeat (first | apply Kd.R_alloc | apply Kd.R_drewN | apply Kd.R_drew)); exact HO_122005.out⟩, ⟨by (with_reducible repeat (first | refine blk_drewN ?_ _ | refine blk_drew ?_ | refine blk_alloc ?_ _)); exact BK101.out⟩, ⟨by (with_reducible repeat (first | refine blk_drewN ?_ _ | refine blk_drew ?_ | refine blk_alloc ?_ _)); exact BK121.out⟩, ⟨tg2 HB.out GE101.out GE121.out⟩⟩
          case rest =>
           clear HC48
           try clear c1
           try clear p1
           try clear q1
           try clear hx1
           try clear qi1
           try clear c2
           try clear p2
           try clear c3
           try clear c4
           try clear c5
           try clear c6
           try clear c6b0
           try clear c7
           try clear p12
           try clear q12
           try clear hx12
           try clear qi12
           try clear c13
           try clear c14
           try clear c15
           try clear c22
           try clear c29
           try clear c29b0
           try clear c29b1
           try clear c30
           try clear c32
           try clear c35
           try clear c36
           try clear c36b0
           try clear c36b1
           try clear c37
           try clear c43
           try clear c43b0
           try clear c43b1
           try clear c44
           try clear c46
           try clear c49
           try clear c50
           try clear c50b0
           try clear c50b1
           try clear c51
           try clear hcz10_0
           try clear hcz10_1
           try clear hcz10_2
           try clear hcz10_3
           try clear hcz10_4
           try clear hcz10_5
           try clear hcz12_0
           try clear hcz12_1
           try clear hcz12_2
           try clear hcz12_3
           try clear hcz12_4
           try clear hcz12_5
           try clear hcz19_0
           try clear hcz19_1
           try clear hcz19_2
           try clear hcz19_3
           try clear hcz19_4
           try clear hcz19_5
           try clear hcz23_0
           try clear hcz23_1
           try clear hcz23_2
           try clear hcz23_3
           try clear hcz23_4
           try clear hcz23_5
           try clear hcz31_0
           try clear hcz31_1
           try clear hcz31_2
           try clear hcz31_3
           try clear hcz31_4
           try clear hcz31_5
           try clear hcz33_0
           try clear hcz33_1
           try clear hcz33_2
           try clear hcz33_3
           try clear hcz33_4
           try clear hcz33_5
           try clear hcz45_0
           try clear hcz45_1
           try clear hcz45_2
           try clear hcz45_3
           try clear hcz45_4
           try clear hcz45_5
           try clear hcz47_0
           try clear hcz47_1
           try clear hcz47_2
           try clear hcz47_3
           try clear hcz47_4
           try clear hcz47_5
           try clear hcz7_0
           try clear hcz7_1
           try clear hcz7_2
           try clear hcz7_3
           try clear hcz7_4
           try clear hcz7_5
           try clear hfz10_0
           try clear hfz10_1
           try clear hfz10_2
           try clear hfz10_3
           try clear hfz10_4
           try clear hfz10_5
           try clear hfz12_0
           try clear hfz12_1
           try clear hfz12_2
           try clear hfz12_3
           try clear hfz12_4
           try clear hfz12_5
           try clear hfz19_0
           try clear hfz19_1
           try clear hfz19_2
           try clear hfz19_3
           try clear hfz19_4
           try clear hfz19_5
           try clear hfz23_0
           try clear hfz23_1
           try clear hfz23_2
           try clear hfz23_3
           try clear hfz23_4
           try clear hfz23_5
           try clear hfz31_0
           try clear hfz31_1
           try clear hfz31_2
           try clear hfz31_3
           try clear hfz31_4
           try clear hfz31_5
           try clear hfz33_0
           try clear hfz33_1
           try clear hfz33_2
           try clear hfz33_3
           try clear hfz33_4
           try clear hfz33_5
           try clear hfz45_0
           try clear hfz45_1
           try clear hfz45_2
           try clear hfz45_3
           try clear hfz45_4
           try clear hfz45_5
           try clear hfz47_0
           try clear hfz47_1
           try clear hfz47_2
           try clear hfz47_3
           try clear hfz47_4
           try clear hfz47_5
           try clear hfz7_0
           try clear hfz7_1
           try clear hfz7_2
           try clear hfz7_3
           try clear hfz7_4
           try clear hfz7_5
           try clear hx122_0
           try clear hx126_0
           try clear p1
           try clear p12
           try clear p122
           try clear p126
           try clear p2
           try clear q1
           try clear q12
           try clear q122
           try clear q126
           obtain ⟨kq, x122002_47, u122002, HA, HJ47, HO_122001, HO_122002, HO_122003, HO_122004, HO_122005, BK101, BK121, HB⟩ := hcut
           cases kq with
           | zero => exact absurd HA.out (by simp [budwoodlaw11_ValidTwice.j4])
           | succ kj47 =>
            have H := HA.out
            clear HA
            simp only [budwoodlaw11_ValidTwice.j4] at H
            have HC56 := Aside0.mk H
            clear H
            go_upto_region 8 with (fail)
            go_cut [63] (fun v63 wc => ∃ (kq : Nat) (x63_55 : Bool), v63 = .bool x63_55 ∧ Aside0 (budwoodlaw11_ValidTwice.j5 kq x63_55 a0_0 l0_1 l0_2 l0_3 l0_4 l0_5 t105 x122001_33 x122002_47 t112 t115 t118 = some r) ∧ Aside0 (kq ≤ kj47) ∧ Aside0 (Kd.R Kd.string 9 wc w.heap.size (fun k_ => some k_ ≠ (u122002 : Value).ownBlock) u122001 x122001_33) ∧ Aside0 (Kd.R Kd.string 9 wc w.heap.size (fun k_ => some k_ ≠ (u122001 : Value).ownBlock) u122002 x122002_47) ∧ Aside0 (Kd.R (Kd.int .u32) 44 wc w.heap.size (fun k_ => some k_ ≠ ((.slice Ao27 t115.length co27) : Value).ownBlock) (.slice Ao26 t112.length co26) t112) ∧ Aside0 (Kd.R (Kd.int .u32) 44 wc w.heap.size (fun k_ => some k_ ≠ ((.slice Ao26 t112.length co26) : Value).ownBlock) (.slice Ao27 t115.length co27) t115) ∧ Aside0 (Kd.R k43 43 wc w.heap.size (fun _ => True) (.slice Ao28 t118.length co28) t118) ∧ Aside0 (wc.heap[gb101]? = some (.cells #[.string a0_0, (.slice A0_1 l0_1.length c0_1), (.slice A0_2 l0_2.length c0_2), (.slice A0_3 l0_3.length c0_3), (.slice A0_4 l0_4.length c0_4), (.slice A0_5 l0_5.length c0_5)] 26 (0, 0))) ∧ Aside0 (wc.heap[gb121]? = some (.cells #[.string t105, u122001, u122002, (.slice Ao26 t112.length co26), (.slice Ao27 t115.length co27), (.slice Ao28 t118.length co28)] 26 (0, 0))) ∧ Aside0 (Below w.heap.size w wc))
            case first =>
             have H := HC56.out
             clear HC56
             by_cases c57 : (l0_5.length : Int) > 0
             ·rw [if_pos c57] at H
              have c57b0 : decide (0 < (l0_5.length : Int)) = true := decide_eq_true c57
              have c57b1 : decide (0 < l0_5.length) = true := decide_eq_true (by omega)
              clear c57
              (first | rw [c57b0] | (simp only [i64_w, i32_w]; rw [c57b0]) | skip)
              have H' := Aside0.mk H
              clear H
              have hnb58 := NB101_121.out
              have hnc58 := NB121_101.out
              have hcz59_0 := cz BK101.out 0 (.string a0_0)
              have hcz59_1 := cz BK101.out 1 (.slice A0_1 l0_1.length c0_1)
              have hcz59_2 := cz BK101.out 2 (.slice A0_2 l0_2.length c0_2)
              have hcz59_3 := cz BK101.out 3 (.slice A0_3 l0_3.length c0_3)
              have hcz59_4 := cz BK101.out 4 (.slice A0_4 l0_4.length c0_4)
              have hcz59_5 := cz BK101.out 5 (.slice A0_5 l0_5.length c0_5)
              have hfz59_0 := blk_frozen BK101.out 0
              have hfz59_1 := blk_frozen BK101.out 1
              have hfz59_2 := blk_frozen BK101.out 2
              have hfz59_3 := blk_frozen BK101.out 3
              have hfz59_4 := blk_frozen BK101.out 4
              have hfz59_5 := blk_frozen BK101.out 5
              go_wp2
              go_meet
              case rel => exact ⟨_, (((Int.tmod a1 3) == 2)), (by first | rfl | (simp; done) | (simp [*]; done)), H', ⟨by have := HJ2.out; have := HJ17.out; have := HJ33.out; have := HJ41.out; have := HJ47.out; first | omega | exact Nat.le_refl _⟩, ⟨by (with_reducible repeat (first | apply Kd.R_alloc | apply Kd.R_drewN | apply Kd.R_drew)); exact HO_122001.out⟩, ⟨by (with_reducible repeat (first | apply Kd.R_alloc | apply Kd.R_drewN | apply Kd.R_drew)); exact HO_122002.out⟩, ⟨by (with_reducible repeat (first | apply Kd.R_alloc | apply Kd.R_drewN | apply Kd.R_drew)); exact HO_122003.out⟩, ⟨by (with_reducible repeat (first | apply Kd.R_alloc | apply Kd.R_drewN | apply Kd.R_drew)); exact HO_122004.out⟩, ⟨by (with_reducible repeat (first | apply Kd.R_alloc | apply Kd.R_drewN | apply Kd.R_drew)); exact HO_122005.out⟩, ⟨by (with_reducible repeat (first | refine blk_drewN ?_ _ | refine blk_drew ?_ | refine blk_alloc ?_ _)); exact BK101.out⟩, ⟨by (with_reducible repeat (first | refine blk_drewN ?_ _ | refine blk_drew ?_ | refine blk_alloc ?_ _)); exact BK121.out⟩, ⟨tg2 HB.out GE101.out GE121.out⟩⟩
             ·rw [if_neg c57] at H
              have c57b0 : decide (0 < (l0_5.length : Int)) = false := decide_eq_false c57
              have c57b1 : decide (0 < l0_5.length) = false := decide_eq_false (by omega)
              clear c57
              (first | rw [c57b0] | (simp only [i64_w, i32_w]; rw [c57b0]) | skip)
              have H' := Aside0.mk H
              clear H
              have hnb60 := NB101_121.out
              have hnc60 := NB121_101.out
              have hcz61_0 := cz BK101.out 0 (.string a0_0)
              have hcz61_1 := cz BK101.out 1 (.slice A0_1 l0_1.length c0_1)
              have hcz61_2 := cz BK101.out 2 (.slice A0_2 l0_2.length c0_2)
              have hcz61_3 := cz BK101.out 3 (.slice A0_3 l0_3.length c0_3)
              have hcz61_4 := cz BK101.out 4 (.slice A0_4 l0_4.length c0_4)
              have hcz61_5 := cz BK101.out 5 (.slice A0_5 l0_5.length c0_5)
              have hfz61_0 := blk_frozen BK101.out 0
              have hfz61_1 := blk_frozen BK101.out 1
              have hfz61_2 := blk_frozen BK101.out 2
              have hfz61_3 := blk_frozen BK101.out 3
              have hfz61_4 := blk_frozen BK101.out 4
              have hfz61_5 := blk_frozen BK101.out 5
              go_wp2
              go_meet
              case rel => exact ⟨_, (false), (by first | rfl | (simp; done) | (simp [*]; done)), H', ⟨by have := HJ2.out; have := HJ17.out; have := HJ33.out; have := HJ41.out; have := HJ47.out; first | omega | exact Nat.le_refl _⟩, ⟨by (with_reducible repeat (first | apply Kd.R_alloc | apply Kd.R_drewN | apply Kd.R_drew)); exact HO_122001.out⟩, ⟨by (with_reducible repeat (first | apply Kd.R_alloc | apply Kd.R_drewN | apply Kd.R_drew)); exact HO_122002.out⟩, ⟨by (with_reducible repeat (first | apply Kd.R_alloc | apply Kd.R_drewN | apply Kd.R_drew)); exact HO_122003.out⟩, ⟨by (with_reducible repeat (first | apply Kd.R_alloc | apply Kd.R_drewN | apply Kd.R_drew)); exact HO_122004.out⟩, ⟨by (with_reducible repeat (first | apply Kd.R_alloc | apply Kd.R_drewN | apply Kd.R_drew)); exact HO_122005.out⟩, ⟨by (with_reducible repeat (first | refine blk_drewN ?_ _ | refine blk_drew ?_ | refine blk_alloc ?_ _)); exact BK101.out⟩, ⟨by (with_reducible repeat (first | refine blk_drewN ?_ _ | refine blk_drew ?_ | refine blk_alloc ?_ _)); exact BK121.out⟩, ⟨tg2 HB.out GE101.out GE121.out⟩⟩
            case rest =>
             clear HC56
             try clear c1
             try clear p1
             try clear q1
             try clear hx1
             try clear qi1
             try clear c2
             try clear p2
             try clear c3
             try clear c4
             try clear c5
             try clear c6
             try clear c6b0
             try clear c7
             try clear p12
             try clear q12
             try clear hx12
             try clear qi12
             try clear c13
             try clear c14
             try clear c15
             try clear c22
             try clear c29
             try clear c29b0
             try clear c29b1
             try clear c30
             try clear c32
             try clear c35
             try clear c36
             try clear c36b0
             try clear c36b1
             try clear c37
             try clear c43
             try clear c43b0
             try clear c43b1
             try clear c44
             try clear c46
             try clear c49
             try clear c50
             try clear c50b0
             try clear c50b1
             try clear c51
             try clear c57
             try clear c57b0
             try clear c57b1
             try clear c58
             try clear c60
             try clear hcz10_0
             try clear hcz10_1
             try clear hcz10_2
             try clear hcz10_3
             try clear hcz10_4
             try clear hcz10_5
             try clear hcz12_0
             try clear hcz12_1
             try clear hcz12_2
             try clear hcz12_3
             try clear hcz12_4
             try clear hcz12_5
             try clear hcz19_0
             try clear hcz19_1
             try clear hcz19_2
             try clear hcz19_3
             try clear hcz19_4
             try clear hcz19_5
             try clear hcz23_0
             try clear hcz23_1
             try clear hcz23_2
             try clear hcz23_3
             try clear hcz23_4
             try clear hcz23_5
             try clear hcz31_0
             try clear hcz31_1
             try clear hcz31_2
             try clear hcz31_3
             try clear hcz31_4
             try clear hcz31_5
             try clear hcz33_0
             try clear hcz33_1
             try clear hcz33_2
             try clear hcz33_3
             try clear hcz33_4
             try clear hcz33_5
             try clear hcz45_0
             try clear hcz45_1
             try clear hcz45_2
             try clear hcz45_3
             try clear hcz45_4
             try clear hcz45_5
             try clear hcz47_0
             try clear hcz47_1
             try clear hcz47_2
             try clear hcz47_3
             try clear hcz47_4
             try clear hcz47_5
             try clear hcz59_0
             try clear hcz59_1
             try clear hcz59_2
             try clear hcz59_3
             try clear hcz59_4
             try clear hcz59_5
             try clear hcz61_0
             try clear hcz61_1
             try clear hcz61_2
             try clear hcz61_3
             try clear hcz61_4
             try clear hcz61_5
             try clear hcz7_0
             try clear hcz7_1
             try clear hcz7_2
             try clear hcz7_3
             try clear hcz7_4
             try clear hcz7_5
             try clear hfz10_0
             try clear hfz10_1
             try clear hfz10_2
             try clear hfz10_3
             try clear hfz10_4
             try clear hfz10_5
             try clear hfz12_0
             try clear hfz12_1
             try clear hfz12_2
             try clear hfz12_3
             try clear hfz12_4
             try clear hfz12_5
             try clear hfz19_0
             try clear hfz19_1
             try clear hfz19_2
             try clear hfz19_3
             try clear hfz19_4
             try clear hfz19_5
             try clear hfz23_0
             try clear hfz23_1
             try clear hfz23_2
             try clear hfz23_3
             try clear hfz23_4
             try clear hfz23_5
             try clear hfz31_0
             try clear hfz31_1
             try clear hfz31_2
             try clear hfz31_3
             try clear hfz31_4
             try clear hfz31_5
             try clear hfz33_0
             try clear hfz33_1
             try clear hfz33_2
             try clear hfz33_3
             try clear hfz33_4
             try clear hfz33_5
             try clear hfz45_0
             try clear hfz45_1
             try clear hfz45_2
             try clear hfz45_3
             try clear hfz45_4
             try clear hfz45_5
             try clear hfz47_0
             try clear hfz47_1
             try clear hfz47_2
             try clear hfz47_3
             try clear hfz47_4
             try clear hfz47_5
             try clear hfz59_0
             try clear hfz59_1
             try clear hfz59_2
             try clear hfz59_3
             try clear hfz59_4
             try clear hfz59_5
             try clear hfz61_0
             try clear hfz61_1
             try clear hfz61_2
             try clear hfz61_3
             try clear hfz61_4
             try clear hfz61_5
             try clear hfz7_0
             try clear hfz7_1
             try clear hfz7_2
             try clear hfz7_3
             try clear hfz7_4
             try clear hfz7_5
             try clear hx122_0
             try clear hx126_0
             try clear p1
             try clear p12
             try clear p122
             try clear p126
             try clear p2
             try clear q1
             try clear q12
             try clear q122
             try clear q126
             obtain ⟨kq, x63_55, rfl, HA, HJ55, HO_122001, HO_122002, HO_122003, HO_122004, HO_122005, BK101, BK121, HB⟩ := hcut
             cases kq with
             | zero => exact absurd HA.out (by simp [budwoodlaw11_ValidTwice.j5])
             | succ kj55 =>
              have H := HA.out
              clear HA
              simp only [budwoodlaw11_ValidTwice.j5] at H
              have HC62 := Aside0.mk H
              clear H
              go_upto_if 63 with (fail)
              go_cut [] (fun wc => ∃ (kq : Nat) (x122005_61 : List (S43)) (u122005 : Value), Aside0 (budwoodlaw11_ValidTwice.j6 kq a0_0 l0_1 l0_2 l0_3 l0_4 l0_5 t105 x122001_33 x122002_47 t112 t115 x122005_61 = some r) ∧ Aside0 (kq ≤ kj55) ∧ Aside0 (Kd.R Kd.string 9 wc w.heap.size (fun k_ => some k_ ≠ (u122002 : Value).ownBlock) u122001 x122001_33) ∧ Aside0 (Kd.R Kd.string 9 wc w.heap.size (fun k_ => some k_ ≠ (u122001 : Value).ownBlock) u122002 x122002_47) ∧ Aside0 (Kd.R (Kd.int .u32) 44 wc w.heap.size (fun k_ => some k_ ≠ ((.slice Ao27 t115.length co27) : Value).ownBlock) (.slice Ao26 t112.length co26) t112) ∧ Aside0 (Kd.R (Kd.int .u32) 44 wc w.heap.size (fun k_ => some k_ ≠ ((.slice Ao26 t112.length co26) : Value).ownBlock) (.slice Ao27 t115.length co27) t115) ∧ Aside0 (Kd.R k43 43 wc w.heap.size (fun _ => True) u122005 x122005_61) ∧ Aside0 (wc.heap[gb101]? = some (.cells #[.string a0_0, (.slice A0_1 l0_1.length c0_1), (.slice A0_2 l0_2.length c0_2), (.slice A0_3 l0_3.length c0_3), (.slice A0_4 l0_4.length c0_4), (.slice A0_5 l0_5.length c0_5)] 26 (0, 0))) ∧ Aside0 (wc.heap[gb121]? = some (.cells #[.string t105, u122001, u122002, (.slice Ao26 t112.length co26), (.slice Ao27 t115.length co27), u122005] 26 (0, 0))) ∧ Aside0 (Below w.heap.size w wc))
              case first =>
               have H := HC62.out
               clear HC62
               by_cases c63 : x63_55 = true
               ·subst c63
                have H1 : (if 0 < (l0_5.length : Int) then (if t118.length < 23456248059221 then (budwoodlaw11_ValidTwice.j6 kj55 a0_0 l0_1 l0_2 l0_3 l0_4 l0_5 t105 x122001_33 x122002_47 t112 t115 (t118 ++ [(⟨(rd_T43 l0_5 0).f0, (rd_T43 l0_5 0).f1, (rd_T43 l0_5 0).f2⟩ : S43)])) else (none)) else (none)) = some r := by rw [if_pos rfl] at H; exact H
                clear H
                have H := H1
                clear H1
                by_cases c64 : 0 < (l0_5.length : Int)
                ·rw [if_pos c64] at H
                 have c64b0 : decide (0 < (l0_5.length : Int)) = true := decide_eq_true c64
                 have c64b1 : decide (0 < l0_5.length) = true := decide_eq_true (by omega)
                 clear c64
                 (first | rw [c64b0] | (simp only [i64_w, i32_w]; rw [c64b0]) | skip)
                 by_cases c65 : t118.length < 23456248059221
                 ·rw [if_pos c65] at H
                  have LMc65 := Aside0.mk c65
                  clear c65
                  obtain ⟨y131, hy131⟩ : ∃ y_ : List (S43), y_ = (t118 ++ [(⟨(rd_T43 l0_5 0).f0, (rd_T43 l0_5 0).f1, (rd_T43 l0_5 0).f2⟩ : S43)]) := ⟨_, rfl⟩
                  replace H : (budwoodlaw11_ValidTwice.j6 kj55 a0_0 l0_1 l0_2 l0_3 l0_4 l0_5 t105 x122001_33 x122002_47 t112 t115 y131) = some r := by first | (rw [hy131]; with_reducible exact H) | (have H2_ := (Option.bind_some _ _).symm.trans H; rw [hy131]; with_reducible exact H2_) | (have H2_ := (Option.bind_some _ _).symm.trans H; with_reducible exact H2_) | with_reducible exact H | (rw [hy131]; exact H) | exact H
                  have Ny131 := Aside0.mk hy131
                  clear hy131
                  have H' := Aside0.mk H
                  clear H
                  try go_wp2
                  replace HO_122001 := Aside0.mk (Kd.R_drew HO_122001.out)
                  replace HO_122002 := Aside0.mk (Kd.R_drew HO_122002.out)
                  replace HO_122003 := Aside0.mk (Kd.R_drew HO_122003.out)
                  replace HO_122004 := Aside0.mk (Kd.R_drew HO_122004.out)
                  replace HO_122005 := Aside0.mk (Kd.R_drew HO_122005.out)
                  replace BK101 := Aside0.mk (blk_drew BK101.out)
                  replace BK121 := Aside0.mk (blk_drew BK121.out)
                  replace HB := Aside0.mk (below_drew1 HB.out)
                  have p130 : 0 ≤ (0 : Int) := (by omega)
                  have q130 : 0 < (l0_5.length : Int) := of_decide_eq_true (by first | (with_reducible assumption) | assumption)
                  obtain ⟨ad130, e130, hx130_0, hx130_1, hx130_2⟩ := at_T43 HR0_5.out 0 p130 q130
                  have hw130_2 := hx130_2
                  (try rw [show ((0 : Int)).toNat = 0 from rfl] at hw130_2)
                  (try rw [show 0 * 3 = 0 from rfl] at hw130_2)
                  (try rw [Addr.add_zero'] at hw130_2)
                  have hw130_1 := hx130_1
                  (try rw [show ((0 : Int)).toNat = 0 from rfl] at hw130_1)
                  (try rw [show 0 * 3 = 0 from rfl] at hw130_1)
                  (try rw [Addr.add_zero'] at hw130_1)
                  have hw130_0 := hx130_0
                  (try rw [show ((0 : Int)).toNat = 0 from rfl] at hw130_0)
                  (try rw [show 0 * 3 = 0 from rfl] at hw130_0)
                  (try rw [Addr.add_zero'] at hw130_0)
                  cases e130
                  have qi130 : (0 < l0_5.length) = True := eq_true (by omega)
                  (try rw [show ((0 : Int)).toNat = 0 from rfl] at hx130_0)
                  (try rw [show 0 * 3 = 0 from rfl] at hx130_0)
                  (try rw [Addr.add_zero'] at hx130_0)
                  (try rw [show ((0 : Int)).toNat = 0 from rfl] at hx130_1)
                  (try rw [show 0 * 3 = 0 from rfl] at hx130_1)
                  (try rw [Addr.add_zero'] at hx130_1)
                  (try rw [show ((0 : Int)).toNat = 0 from rfl] at hx130_2)
                  (try rw [show 0 * 3 = 0 from rfl] at hx130_2)
                  (try rw [Addr.add_zero'] at hx130_2)
                  replace hx130_0 := (HB.out.cell (World.block_lt_of_cell? w _ hx130_0)).trans hx130_0
                  replace hx130_1 := (HB.out.cell (World.block_lt_of_cell? w _ hx130_1)).trans hx130_1
                  replace hx130_2 := (HB.out.cell (World.block_lt_of_cell? w _ hx130_2)).trans hx130_2
                  replace p130 := eq_true p130
                  replace q130 := eq_true q130
                  refine start_ (n := 10) (S := fun w' => w'.cell? ⟨gb121, 0, none⟩ = some (.string t105) ∧ w'.cell? ⟨gb121, 1, none⟩ = some (u122001) ∧ w'.cell? ⟨gb121, 2, none⟩ = some (u122002) ∧ w'.cell? ⟨gb121, 3, none⟩ = some (.slice Ao26 t112.length co26) ∧ w'.cell? ⟨gb121, 4, none⟩ = some (.slice Ao27 t115.length co27) ∧ w'.cell? ⟨gb121, 5, none⟩ = some (.slice Ao28 t118.length co28) ∧ w'.cell? ⟨gb101, 0, none⟩ = some (.string a0_0) ∧ w'.cell? ⟨gb101, 1, none⟩ = some (.slice A0_1 l0_1.length c0_1) ∧ w'.cell? ⟨gb101, 2, none⟩ = some (.slice A0_2 l0_2.length c0_2) ∧ w'.cell? ⟨gb101, 3, none⟩ = some (.slice A0_3 l0_3.length c0_3) ∧ w'.cell? ⟨gb101, 4, none⟩ = some (.slice A0_4 l0_4.length c0_4) ∧ w'.cell? ⟨gb101, 5, none⟩ = some (.slice (some ad130) l0_5.length c0_5) ∧ w'.cell? ad130 = some (.int .u8 ((rd_T43 l0_5 0).f0)) ∧ w'.cell? ⟨ad130.block, ad130.off + 1, none⟩ = some (.int .u16 ((rd_T43 l0_5 0).f1)) ∧ w'.cell? ⟨ad130.block, ad130.off + 2, none⟩ = some (.int .u16 ((rd_T43 l0_5 0).f2))) (ds := [9]) #[false, false, false, false, false, false, false, false, false, false] (by kernel_rfl) rfl rfl ⟨(blk_cell BK121.out 0).trans rfl, (blk_cell BK121.out 1).trans rfl, (blk_cell BK121.out 2).trans rfl, (blk_cell BK121.out 3).trans rfl, (blk_cell BK121.out 4).trans rfl, (blk_cell BK121.out 5).trans rfl, (blk_cell BK101.out 0).trans rfl, (blk_cell BK101.out 1).trans rfl, (blk_cell BK101.out 2).trans rfl, (blk_cell BK101.out 3).trans rfl, (blk_cell BK101.out 4).trans rfl, (blk_cell BK101.out 5).trans rfl, ((HB.out.cell (World.block_lt_of_cell? w _ hw130_0)).trans hw130_0), ((HB.out.cell (World.block_lt_of_cell? w _ hw130_1)).trans hw130_1), ((HB.out.cell (World.block_lt_of_cell? w _ hw130_2)).trans hw130_2)⟩ (fun hHeld => ?_); refine with_tabW budwoodlaw11_ValidTwice.tab9 budwoodlaw11_ValidTwice.bits9 (fun HT_ HW_ => ?_)
                  generalize wc.drew = w66 at HO_122001 HO_122002 HO_122003 HO_122004 HO_122005 BK101 BK121 HB hx130_0 hx130_1 hx130_2 hHeld ⊢
                  refine pure_ (i := 0) (N := some 64) (v := ?_) (a' := ?_) #[true, false, false, false, false, false, false, false, false, false] rfl rfl (any_of HT_.out (by kernel_rfl)) (fun _ _ _ h => h) (Or.inl ⟨by rfl, ?_⟩) ?_ ?_
                  rotate_left
                  ·intro w'
                   go_simp
                   with_reducible rfl
                  rotate_left
                  ·simp only [Act.put, List.setIfInBounds_toArray, List.set_cons_zero, List.set_cons_succ, i64_w, i32_w]
                   rfl
                  refine pure_ (i := 2) (N := some 66) (v := ?_) (a' := ?_) #[true, false, true, false, false, false, false, false, false, false] rfl rfl (any_of HT_.out (by kernel_rfl)) (fun _ _ _ h => h) (Or.inl ⟨by rfl, ?_⟩) ?_ ?_
                  rotate_left
                  ·intro w'
                   go_simp
                   with_reducible rfl
                  rotate_left
                  ·simp only [Act.put, List.setIfInBounds_toArray, List.set_cons_zero, List.set_cons_succ, i64_w, i32_w]
                   rfl
                  refine take_ (i := 1) (N := some 65) (v := ?_) (a' := ?_) #[true, true, true, false, false, false, false, false, false, false] rfl rfl (take_ofW HT_.out HW_.out (by kernel_rfl)) (fun _ _ _ h => h) (Or.inl ⟨by rfl, ?_⟩) hHeld ?_ ?_
                  rotate_left
                  ·rintro w' ⟨s0, s1, s2, s3, s4, s5, s6, s7, s8, s9, s10, s11, s12, s13, s14⟩
                   go_simp
                   with_reducible rfl
                  rotate_left
                  ·simp only [Act.put, List.setIfInBounds_toArray, List.set_cons_zero, List.set_cons_succ, i64_w, i32_w]
                   rfl
                  refine take_ (i := 3) (N := some 67) (v := ?_) (a' := ?_) #[true, true, true, true, false, false, false, false, false, false] rfl rfl (take_ofW HT_.out HW_.out (by kernel_rfl)) (fun _ _ _ h => h) (Or.inl ⟨by rfl, ?_⟩) hHeld ?_ ?_
                  rotate_left
                  ·rintro w' ⟨s0, s1, s2, s3, s4, s5, s6, s7, s8, s9, s10, s11, s12, s13, s14⟩
                   go_simp
                   with_reducible rfl
                  rotate_left
                  ·simp only [Act.put, List.setIfInBounds_toArray, List.set_cons_zero, List.set_cons_succ, i64_w, i32_w]
                   rfl
                  refine pure_ (i := 4) (N := some 68) (v := ?_) (a' := ?_) #[true, true, true, true, true, false, false, false, false, false] rfl rfl (any_of HT_.out (by kernel_rfl)) (fun _ _ _ h => h) (Or.inl ⟨by rfl, ?_⟩) ?_ ?_
                  rotate_left
                  ·intro w'
                   go_simp
                   with_reducible rfl
                  rotate_left
                  ·simp only [Act.put, List.setIfInBounds_toArray, List.set_cons_zero, List.set_cons_succ, i64_w, i32_w]
                   rfl
                  refine take_ (i := 5) (N := some 69) (v := ?_) (a' := ?_) #[true, true, true, true, true, true, false, false, false, false] rfl rfl (take_ofW HT_.out HW_.out (by kernel_rfl)) (fun _ _ _ h => h) (Or.inl ⟨by rfl, ?_⟩) hHeld ?_ ?_
                  rotate_left
                  ·rintro w' ⟨s0, s1, s2, s3, s4, s5, s6, s7, s8, s9, s10, s11, s12, s13, s14⟩
                   go_simp
                   with_reducible rfl
                  rotate_left
                  ·simp only [Act.put, List.setIfInBounds_toArray, List.set_cons_zero, List.set_cons_succ, i64_w, i32_w]
                   rfl
                  refine one_ (i := 6) (N := some 70) #[true, true, true, true, true, true, true, false, false, false] rfl rfl (one_of HT_.out (by kernel_rfl)) (by decide) (fun K hK => ?_)
                  refine value_ (w1 := ?_) (v := ?_) (by rfl) rfl ?_ ?_
                  rotate_left 2
                  ·go_simp
                   constructor
                   ·rfl
                   ·rfl
                  refine hK.out _ _ ⟨(blk_cell (blk_alloc BK121.out _) 0).trans rfl, (blk_cell (blk_alloc BK121.out _) 1).trans rfl, (blk_cell (blk_alloc BK121.out _) 2).trans rfl, (blk_cell (blk_alloc BK121.out _) 3).trans rfl, (blk_cell (blk_alloc BK121.out _) 4).trans rfl, (blk_cell (blk_alloc BK121.out _) 5).trans rfl, (blk_cell (blk_alloc BK101.out _) 0).trans rfl, (blk_cell (blk_alloc BK101.out _) 1).trans rfl, (blk_cell (blk_alloc BK101.out _) 2).trans rfl, (blk_cell (blk_alloc BK101.out _) 3).trans rfl, (blk_cell (blk_alloc BK101.out _) 4).trans rfl, (blk_cell (blk_alloc BK101.out _) 5).trans rfl, (World.cell?_alloc_lt _ _ _ (World.block_lt_of_cell? _ _ (((HB.out.cell (World.block_lt_of_cell? w _ hw130_0)).trans hw130_0)))).trans (((HB.out.cell (World.block_lt_of_cell? w _ hw130_0)).trans hw130_0)), (World.cell?_alloc_lt _ _ _ (World.block_lt_of_cell? _ _ (((HB.out.cell (World.block_lt_of_cell? w _ hw130_1)).trans hw130_1)))).trans (((HB.out.cell (World.block_lt_of_cell? w _ hw130_1)).trans hw130_1)), (World.cell?_alloc_lt _ _ _ (World.block_lt_of_cell? _ _ (((HB.out.cell (World.block_lt_of_cell? w _ hw130_2)).trans hw130_2)))).trans (((HB.out.cell (World.block_lt_of_cell? w _ hw130_2)).trans hw130_2))⟩ (fun hHeld => ?_)
                  clear hK K
                  refine norm_ (a' := ?_) ?_ ?_
                  rotate_left
                  ·show Act.put _ (some 70) _ = _
                   simp only [Act.put, List.setIfInBounds_toArray, List.set_cons_zero, List.set_cons_succ, i64_w, i32_w]
                   rfl
                  refine one_ (i := 7) (N := some 71) #[true, true, true, true, true, true, true, true, false, false] rfl rfl (one_of HT_.out (by kernel_rfl)) (by decide) (fun K hK => ?_)
                  refine Kd.R_append_step k43 (w0 := w) w.heap.size (by rfl) (.tmp 65) (.tmp 70) 24 43 (.agg #[(.int .u8 0), (.int .u16 0), (.int .u16 0)]) 6 rfl Tryd.underlying24 info43 rfl (by decide) (by omega) (.slice Ao28 t118.length co28) t118 (⟨(rd_T43 l0_5 0).f0, (rd_T43 l0_5 0).f1, (rd_T43 l0_5 0).f2⟩ : S43) [.int .u8 ((rd_T43 l0_5 0).f0), .int .u16 ((rd_T43 l0_5 0).f1), .int .u16 ((rd_T43 l0_5 0).f2)] (fun _ => True) (fun _ => False) rfl rfl ?aP (fun _ hk => hk.elim) ?aF ?aO ?aB ?aS ?aL ?_
                  (case aP => exact k43_mkM _ _ _ (⟨(rd_T43 l0_5 0).f0, (rd_T43 l0_5 0).f1, (rd_T43 l0_5 0).f2⟩ : S43))
                  (case aB => exact (tg2 HB.out GE101.out GE121.out))
                  (case aF => exact (fun _ _ => trivial))
                  (case aO => exact (tk HO_122005.out))
                  (case aS => exact (below_size (tg2 HB.out GE101.out GE121.out)))
                  (case aL => have := LMc65.out; omega)
                  intro v132 w67 ho hb hg hat
                  rw [← Ny131.out] at ho
                  have n0_ := Aside0.mk (Kd.R_over' (tk HO_122001.out) (Kd.R_typed (tk HO_122005.out)) (by decide) hg)
                  have n1_ := Aside0.mk (Kd.R_over' (tk HO_122002.out) (Kd.R_typed (tk HO_122005.out)) (by decide) hg)
                  have n2_ := Aside0.mk (Kd.R_over' (tk HO_122003.out) (Kd.R_typed (tk HO_122005.out)) (by decide) hg)
                  have n3_ := Aside0.mk (Kd.R_over' (tk HO_122004.out) (Kd.R_typed (tk HO_122005.out)) (by decide) hg)
                  have n4_ := Aside0.mk (blk_grown (g := gb101) (o := .cells #[.string a0_0, .slice A0_1 l0_1.length c0_1, .slice A0_2 l0_2.length c0_2, .slice A0_3 l0_3.length c0_3, .slice A0_4 l0_4.length c0_4, .slice (some ad130) l0_5.length c0_5] 26 (0, 0)) (tb BK101.out) hg (Kd.R_ne HO_122005.out BK101.out (by decide)))
                  have n5_ := Aside0.mk (blk_grown (g := gb121) (o := .cells #[.string t105, u122001, u122002, .slice Ao26 t112.length co26, .slice Ao27 t115.length co27, .slice Ao28 t118.length co28] 26 (0, 0)) (tb BK121.out) hg (Kd.R_ne HO_122005.out BK121.out (by decide)))
                  have n6_ := Aside0.mk (hb)
                  have n7_ := Aside0.mk (ho)
                  clear HO_122001
                  clear HO_122002
                  clear HO_122003
                  clear HO_122004
                  clear BK101
                  clear BK121
                  clear HB
                  clear HO_122005
                  have HO_122001 := n0_
                  have HO_122002 := n1_
                  have HO_122003 := n2_
                  have HO_122004 := n3_
                  have BK101 := n4_
                  have BK121 := n5_
                  have HB := n6_
                  have HO133 := n7_
                  clear n0_ n1_ n2_ n3_ n4_ n5_ n6_ n7_
                  clear ho hb hg hat
                  obtain ⟨Ao68, co68, eo68⟩ := Kd.R_slice HO133.out
                  (first | subst eo68 | (injection eo68 with f1_ f2_ f3_; have f4_ := f1_.symm; have f5_ := f3_.symm; clear f1_ f2_ f3_; subst f4_; subst f5_))
                  refine hK.out _ _ ⟨(blk_cell BK121.out 0).trans rfl, (blk_cell BK121.out 1).trans rfl, (blk_cell BK121.out 2).trans rfl, (blk_cell BK121.out 3).trans rfl, (blk_cell BK121.out 4).trans rfl, (blk_cell BK121.out 5).trans rfl, (blk_cell BK101.out 0).trans rfl, (blk_cell BK101.out 1).trans rfl, (blk_cell BK101.out 2).trans rfl, (blk_cell BK101.out 3).trans rfl, (blk_cell BK101.out 4).trans rfl, (blk_cell BK101.out 5).trans rfl, ((HB.out.cell (World.block_lt_of_cell? w _ hw130_0)).trans hw130_0), ((HB.out.cell (World.block_lt_of_cell? w _ hw130_1)).trans hw130_1), ((HB.out.cell (World.block_lt_of_cell? w _ hw130_2)).trans hw130_2)⟩ (fun hHeld => ?_)
                  clear hK K
                  refine norm_ (a' := ?_) ?_ ?_
                  rotate_left
                  ·show Act.put _ (some 71) _ = _
                   simp only [Act.put, List.setIfInBounds_toArray, List.set_cons_zero, List.set_cons_succ, i64_w, i32_w]
                   rfl
                  refine pure_ (i := 8) (N := some 72) (v := ?_) (a' := ?_) #[true, true, true, true, true, true, true, true, true, false] rfl rfl (any_of HT_.out (by kernel_rfl)) (fun _ _ _ h => h) (Or.inl ⟨by rfl, ?_⟩) ?_ ?_
                  rotate_left
                  ·intro w'
                   go_simp
                   with_reducible rfl
                  rotate_left
                  ·simp only [Act.put, List.setIfInBounds_toArray, List.set_cons_zero, List.set_cons_succ, i64_w, i32_w]
                   rfl
                  refine last_ (i := 9) (N := none) #[true, true, true, true, true, true, true, true, true, true] rfl rfl (one_of HT_.out (by kernel_rfl)) (by decide) (fun K hK => ?_)
                  have hs69 := cz BK121.out 5 (.slice Ao28 t118.length co28)
                  have hfs69 := blk_frozen BK121.out 5
                  have hns69_0 := NB101_121.out
                  have hms69_0 := NB121_101.out
                  refine skip_ (w1 := ?_) (by rfl) rfl ?_ ?_
                  rotate_left
                  ·go_simp
                   rfl
                  refine hK.out _ _ ?_
                  clear hK K
                  refine done_ (done_of HT_.out (by kernel_rfl)) ?_
                  try go_wp2
                  go_meet
                  case rel => exact ⟨_, (y131), (.slice Ao68 y131.length co68), H', ⟨by have := HJ2.out; have := HJ17.out; have := HJ33.out; have := HJ41.out; have := HJ47.out; have := HJ55.out; first | omega | exact Nat.le_refl _⟩, ⟨by (with_reducible repeat (first | apply Kd.R_alloc | apply Kd.R_drewN | apply Kd.R_drew)); exact Kd.R_mono (Kd.R_far (p := ⟨gb121, 5, none⟩) (Kd.R_types HO_122001.out BK121.out (by decide)) (fun _ hk => hk.2) (.slice Ao68 y131.length co68)) (fun _ hk => hk.1)⟩, ⟨by (with_reducible repeat (first | apply Kd.R_alloc | apply Kd.R_drewN | apply Kd.R_drew)); exact Kd.R_mono (Kd.R_far (p := ⟨gb121, 5, none⟩) (Kd.R_types HO_122002.out BK121.out (by decide)) (fun _ hk => hk.2) (.slice Ao68 y131.length co68)) (fun _ hk => hk.1)⟩, ⟨by (with_reducible repeat (first | apply Kd.R_alloc | apply Kd.R_drewN | apply Kd.R_drew)); exact Kd.R_mono (Kd.R_far (p := ⟨gb121, 5, none⟩) (Kd.R_types HO_122003.out BK121.out (by decide)) (fun _ hk => hk.2) (.slice Ao68 y131.length co68)) (fun _ hk => hk.1)⟩, ⟨by (with_reducible repeat (first | apply Kd.R_alloc | apply Kd.R_drewN | apply Kd.R_drew)); exact Kd.R_mono (Kd.R_far (p := ⟨gb121, 5, none⟩) (Kd.R_types HO_122004.out BK121.out (by decide)) (fun _ hk => hk.2) (.slice Ao68 y131.length co68)) (fun _ hk => hk.1)⟩, ⟨by (with_reducible repeat (first | apply Kd.R_alloc | apply Kd.R_drewN | apply Kd.R_drew)); exact Kd.R_mono (Kd.R_far (p := ⟨gb121, 5, none⟩) (Kd.R_types HO133.out BK121.out (by decide)) (fun _ hk => hk.2) (.slice Ao68 y131.length co68)) (fun _ hk => trivial)⟩, ⟨by (with_reducible repeat (first | refine blk_drewN ?_ _ | refine blk_drew ?_ | refine blk_alloc ?_ _)); refine blk_far ?_ NB101_121.out _; (with_reducible repeat (first | refine blk_drewN ?_ _ | refine blk_drew ?_ | refine blk_alloc ?_ _)); exact BK101.out⟩, ⟨by (with_reducible repeat (first | refine blk_drewN ?_ _ | refine blk_drew ?_ | refine blk_alloc ?_ _)); refine blk_put (cs := #[.string t105, u122001, u122002, .slice Ao26 t112.length co26, .slice Ao27 t115.length co27, .slice Ao28 t118.length co28]) ?_ 5 _ rfl; (with_reducible repeat (first | refine blk_drewN ?_ _ | refine blk_drew ?_ | refine blk_alloc ?_ _)); exact BK121.out⟩, ⟨tg2 HB.out GE101.out GE121.out⟩⟩
                 ·rw [if_neg c65] at H
                  exact absurd H (by simp)
                ·rw [if_neg c64] at H
                 exact absurd H (by simp)
               ·replace c63 := Bool.eq_false_iff.mpr c63
                subst c63
                have H1 : (budwoodlaw11_ValidTwice.j6 kj55 a0_0 l0_1 l0_2 l0_3 l0_4 l0_5 t105 x122001_33 x122002_47 t112 t115 t118) = some r := by rw [if_neg (show ¬ (false = true) by decide)] at H; exact H
                clear H
                have H := H1
                clear H1
                have H' := Aside0.mk H
                clear H
                go_wp2
                go_meet
                case rel => exact ⟨_, (t118), (.slice Ao28 t118.length co28), H', ⟨by have := HJ2.out; have := HJ17.out; have := HJ33.out; have := HJ41.out; have := HJ47.out; have := HJ55.out; first | omega | exact Nat.le_refl _⟩, ⟨by (with_reducible repeat (first | apply Kd.R_alloc | apply Kd.R_drewN | apply Kd.R_drew)); exact HO_122001.out⟩, ⟨by (with_reducible repeat (first | apply Kd.R_alloc | apply Kd.R_drewN | apply Kd.R_drew)); exact HO_122002.out⟩, ⟨by (with_reducible repeat (first | apply Kd.R_alloc | apply Kd.R_drewN | apply Kd.R_drew)); exact HO_122003.out⟩, ⟨by (with_reducible repeat (first | apply Kd.R_alloc | apply Kd.R_drewN | apply Kd.R_drew)); exact HO_122004.out⟩, ⟨by (with_reducible repeat (first | apply Kd.R_alloc | apply Kd.R_drewN | apply Kd.R_drew)); exact HO_122005.out⟩, ⟨by (with_reducible repeat (first | refine blk_drewN ?_ _ | refine blk_drew ?_ | refine blk_alloc ?_ _)); exact BK101.out⟩, ⟨by (with_reducible repeat (first | refine blk_drewN ?_ _ | refine blk_drew ?_ | refine blk_alloc ?_ _)); exact BK121.out⟩, ⟨tg2 HB.out GE101.out GE121.out⟩⟩
              case rest =>
               clear HC62
               try clear c1
               try clear p1
               try clear q1
               try clear hx1
               try clear qi1
               try clear c2
               try clear p2
               try clear c3
               try clear c4
               try clear c5
               try clear c6
               try clear c6b0
               try clear c7
               try clear p12
               try clear q12
               try clear hx12
               try clear qi12
               try clear c13
               try clear p13
               try clear q13
               try clear hx13
               try clear qi13
               try clear c14
               try clear c15
               try clear c22
               try clear c29
               try clear c29b0
               try clear c29b1
               try clear c30
               try clear c32
               try clear c35
               try clear c36
               try clear c36b0
               try clear c36b1
               try clear c37
               try clear c43
               try clear c43b0
               try clear c43b1
               try clear c44
               try clear c46
               try clear c49
               try clear c50
               try clear c50b0
               try clear c50b1
               try clear c51
               try clear c57
               try clear c57b0
               try clear c57b1
               try clear c58
               try clear c60
               try clear c63
               try clear c64
               try clear c64b0
               try clear c64b1
               try clear c65
               try clear hcz10_0
               try clear hcz10_1
               try clear hcz10_2
               try clear hcz10_3
               try clear hcz10_4
               try clear hcz10_5
               try clear hcz12_0
               try clear hcz12_1
               try clear hcz12_2
               try clear hcz12_3
               try clear hcz12_4
               try clear hcz12_5
               try clear hcz19_0
               try clear hcz19_1
               try clear hcz19_2
               try clear hcz19_3
               try clear hcz19_4
               try clear hcz19_5
               try clear hcz23_0
               try clear hcz23_1
               try clear hcz23_2
               try clear hcz23_3
               try clear hcz23_4
               try clear hcz23_5
               try clear hcz31_0
               try clear hcz31_1
               try clear hcz31_2
               try clear hcz31_3
               try clear hcz31_4
               try clear hcz31_5
               try clear hcz33_0
               try clear hcz33_1
               try clear hcz33_2
               try clear hcz33_3
               try clear hcz33_4
               try clear hcz33_5
               try clear hcz45_0
               try clear hcz45_1
               try clear hcz45_2
               try clear hcz45_3
               try clear hcz45_4
               try clear hcz45_5
               try clear hcz47_0
               try clear hcz47_1
               try clear hcz47_2
               try clear hcz47_3
               try clear hcz47_4
               try clear hcz47_5
               try clear hcz59_0
               try clear hcz59_1
               try clear hcz59_2
               try clear hcz59_3
               try clear hcz59_4
               try clear hcz59_5
               try clear hcz61_0
               try clear hcz61_1
               try clear hcz61_2
               try clear hcz61_3
               try clear hcz61_4
               try clear hcz61_5
               try clear hcz7_0
               try clear hcz7_1
               try clear hcz7_2
               try clear hcz7_3
               try clear hcz7_4
               try clear hcz7_5
               try clear hfz10_0
               try clear hfz10_1
               try clear hfz10_2
               try clear hfz10_3
               try clear hfz10_4
               try clear hfz10_5
               try clear hfz12_0
               try clear hfz12_1
               try clear hfz12_2
               try clear hfz12_3
               try clear hfz12_4
               try clear hfz12_5
               try clear hfz19_0
               try clear hfz19_1
               try clear hfz19_2
               try clear hfz19_3
               try clear hfz19_4
               try clear hfz19_5
               try clear hfz23_0
               try clear hfz23_1
               try clear hfz23_2
               try clear hfz23_3
               try clear hfz23_4
               try clear hfz23_5
               try clear hfz31_0
               try clear hfz31_1
               try clear hfz31_2
               try clear hfz31_3
               try clear hfz31_4
               try clear hfz31_5
               try clear hfz33_0
               try clear hfz33_1
               try clear hfz33_2
               try clear hfz33_3
               try clear hfz33_4
               try clear hfz33_5
               try clear hfz45_0
               try clear hfz45_1
               try clear hfz45_2
               try clear hfz45_3
               try clear hfz45_4
               try clear hfz45_5
               try clear hfz47_0
               try clear hfz47_1
               try clear hfz47_2
               try clear hfz47_3
               try clear hfz47_4
               try clear hfz47_5
               try clear hfz59_0
               try clear hfz59_1
               try clear hfz59_2
               try clear hfz59_3
               try clear hfz59_4
               try clear hfz59_5
               try clear hfz61_0
               try clear hfz61_1
               try clear hfz61_2
               try clear hfz61_3
               try clear hfz61_4
               try clear hfz61_5
               try clear hfz7_0
               try clear hfz7_1
               try clear hfz7_2
               try clear hfz7_3
               try clear hfz7_4
               try clear hfz7_5
               try clear hx122_0
               try clear hx126_0
               try clear hx130_0
               try clear hx130_1
               try clear hx130_2
               try clear p1
               try clear p12
               try clear p122
               try clear p126
               try clear p130
               try clear p2
               try clear q1
               try clear q12
               try clear q122
               try clear q126
               try clear q130
               obtain ⟨kq, x122005_61, u122005, HA, HJ61, HO_122001, HO_122002, HO_122003, HO_122004, HO_122005, BK101, BK121, HB⟩ := hcut
               cases kq with
               | zero => exact absurd HA.out (by simp [budwoodlaw11_ValidTwice.j6])
               | succ kj61 =>
                have H := HA.out
                clear HA
                simp only [budwoodlaw11_ValidTwice.j6] at H
                replace H := Option.bind_eq_some_iff.mp H
                obtain ⟨⟨t134, t135⟩, A700, H⟩ := H
                replace H : ((budwoodref10_Same.f kj61 t105 x122001_33 x122002_47 t112 t115 x122005_61 a0_0 l0_1 l0_2 l0_3 l0_4 l0_5).bind fun t136 => (if t136 = true then (if t134 = 0 then ((budwoodlaw11_awake.f kj61).bind fun t137 => (some t137)) else (some false)) else (if t134 = 1 then ((valid_Check.f kj61 t105 x122001_33 x122002_47 t112 t115 x122005_61).bind fun t138 => (if t138 = 20 then ((budwoodlaw11_awake.f kj61).bind fun t139 => (some t139)) else (some false))) else (if t134 = 3 then ((valid_Check.f kj61 t105 x122001_33 x122002_47 t112 t115 x122005_61).bind fun t140 => (if t140 = 20 then ((budwoodlaw11_awake.f kj61).bind fun t141 => (some t141)) else (some false))) else (if t134 = 6 then ((valid_Check.f kj61 t105 x122001_33 x122002_47 t112 t115 x122005_61).bind fun t142 => (if t142 = 20 then ((budwoodlaw11_awake.f kj61).bind fun t143 => (some t143)) else (some false))) else (if t134 = 4 then ((valid_Check.f kj61 t105 x122001_33 x122002_47 t112 t115 x122005_61).bind fun t144 => (if t144 = 20 then ((budwoodlaw11_awake.f kj61).bind fun t145 => (some t145)) else (some false))) else (some false))))))) = some r := H
                have A70 := Aside0.mk A700
                clear A700
                replace H := Option.bind_eq_some_iff.mp H
                obtain ⟨t136, A710, H⟩ := H
                replace H : (if t136 = true then (if t134 = 0 then ((budwoodlaw11_awake.f kj61).bind fun t137 => (some t137)) else (some false)) else (if t134 = 1 then ((valid_Check.f kj61 t105 x122001_33 x122002_47 t112 t115 x122005_61).bind fun t138 => (if t138 = 20 then ((budwoodlaw11_awake.f kj61).bind fun t139 => (some t139)) else (some false))) else (if t134 = 3 then ((valid_Check.f kj61 t105 x122001_33 x122002_47 t112 t115 x122005_61).bind fun t140 => (if t140 = 20 then ((budwoodlaw11_awake.f kj61).bind fun t141 => (some t141)) else (some false))) else (if t134 = 6 then ((valid_Check.f kj61 t105 x122001_33 x122002_47 t112 t115 x122005_61).bind fun t142 => (if t142 = 20 then ((budwoodlaw11_awake.f kj61).bind fun t143 => (some t143)) else (some false))) else (if t134 = 4 then ((valid_Check.f kj61 t105 x122001_33 x122002_47 t112 t115 x122005_61).bind fun t144 => (if t144 = 20 then ((budwoodlaw11_awake.f kj61).bind fun t145 => (some t145)) else (some false))) else (some false)))))) = some r := H
                have A71 := Aside0.mk A710
                clear A710
                by_cases c72 : t136 = true
                ·subst c72
                 have H1 : (if t134 = 0 then ((budwoodlaw11_awake.f kj61).bind fun t137 => (some t137)) else (some false)) = some r := by rw [if_pos rfl] at H; exact H
                 clear H
                 have H := H1
                 clear H1
                 by_cases c73 : t134 = 0
                 ·rw [if_pos c73] at H
                  have c73b0 : (t134 == 0) = true := beq_iff_eq.mpr c73
                  have c73b1 : (t134 != 0) = false := bne_eq_false_iff_eq.mpr c73
                  clear c73
                  replace H := Option.bind_eq_some_iff.mp H
                  obtain ⟨t137, A740, H⟩ := H
                  replace H : (some t137) = some r := H
                  have A74 := Aside0.mk A740
                  clear A740
                  obtain rfl := Option.some.inj H
                  have hnb75 := NB121_101.out
                  have hnc75 := NB101_121.out
                  have hcz76_0 := cz BK121.out 0 (.string t105)
                  have hcz76_1 := cz BK121.out 1 (u122001)
                  have hcz76_2 := cz BK121.out 2 (u122002)
                  have hcz76_3 := cz BK121.out 3 (.slice Ao26 t112.length co26)
                  have hcz76_4 := cz BK121.out 4 (.slice Ao27 t115.length co27)
                  have hcz76_5 := cz BK121.out 5 (u122005)
                  have hfz76_0 := blk_frozen BK121.out 0
                  have hfz76_1 := blk_frozen BK121.out 1
                  have hfz76_2 := blk_frozen BK121.out 2
                  have hfz76_3 := blk_frozen BK121.out 3
                  have hfz76_4 := blk_frozen BK121.out 4
                  have hfz76_5 := blk_frozen BK121.out 5
                  obtain ⟨Ao77, co77, eo77⟩ := Kd.R_slice HO_122001.out
                  subst eo77
                  obtain ⟨Ao78, co78, eo78⟩ := Kd.R_slice HO_122002.out
                  subst eo78
                  obtain ⟨Ao79, co79, eo79⟩ := Kd.R_slice HO_122005.out
                  subst eo79
                  go_wp2_with (first | ((with_reducible refine gate_callee (f := 16) rfl ?_); refine goesL_ (some 75) rfl rfl Tryd.func16 (by kernel_rfl) rfl #[.agg #[.string t105, .slice Ao77 x122001_33.length co77, .slice Ao78 x122002_47.length co78, .slice Ao26 t112.length co26, .slice Ao27 t115.length co27, .slice Ao79 x122005_61.length co79]] rfl tm ?_; (with_reducible refine (valid_Module.calls kj61 t105 _ _ x122001_33 _ _ x122002_47 _ _ t112 _ _ t115 _ _ x122005_61 t134 t135 _ ?side11 ?side1 ?side2 ?side3 ?side4 ?side5 ?side6 ?side7 ?side8 ?side9 ?side10 A70.out).mono ?_); (case side1 => exact tr HO_122001.out); (case side2 => exact rl HO_122001.out); (case side3 => exact tr HO_122002.out); (case side4 => exact rl HO_122002.out); (case side5 => exact tr HO_122003.out); (case side6 => exact rl HO_122003.out); (case side7 => exact tr HO_122004.out); (case side8 => exact rl HO_122004.out); (case side9 => exact tr HO_122005.out); (case side10 => exact rl HO_122005.out); (case side11 => first | exact HG.out | exact Glob.below HG.out (tg2 HB.out GE101.out GE121.out)); rintro e w80 ⟨rfl, hb⟩; refine ⟨_, rfl, ?_⟩; replace HO_122001 := ra HO_122001.out hb; replace HO_122002 := ra HO_122002.out hb; replace HO_122003 := ra HO_122003.out hb; replace HO_122004 := ra HO_122004.out hb; replace HO_122005 := ra HO_122005.out hb; replace BK101 := ba BK101.out hb; replace BK121 := ba BK121.out hb; replace HB := Aside0.mk (below_step (tg2 HB.out GE101.out GE121.out) hb); (try clear hb); (try clear hb2); (try clear hk); (try clear hi); have hcz81_0 := cz BK121.out 0 (.string t105); have hcz81_1 := cz BK121.out 1 (.slice Ao77 x122001_33.length co77); have hcz81_2 := cz BK121.out 2 (.slice Ao78 x122002_47.length co78); have hcz81_3 := cz BK121.out 3 (.slice Ao26 t112.length co26); have hcz81_4 := cz BK121.out 4 (.slice Ao27 t115.length co27); have hcz81_5 := cz BK121.out 5 (.slice Ao79 x122005_61.length co79); have hfz81_0 := blk_frozen BK121.out 0; have hfz81_1 := blk_frozen BK121.out 1; have hfz81_2 := blk_frozen BK121.out 2; have hfz81_3 := blk_frozen BK121.out 3; have hfz81_4 := blk_frozen BK121.out 4; have hfz81_5 := blk_frozen BK121.out 5; have hcz82_0 := cz BK101.out 0 (.string a0_0); have hcz82_1 := cz BK101.out 1 (.slice A0_1 l0_1.length c0_1); have hcz82_2 := cz BK101.out 2 (.slice A0_2 l0_2.length c0_2); have hcz82_3 := cz BK101.out 3 (.slice A0_3 l0_3.length c0_3); have hcz82_4 := cz BK101.out 4 (.slice A0_4 l0_4.length c0_4); have hcz82_5 := cz BK101.out 5 (.slice A0_5 l0_5.length c0_5); have hfz82_0 := blk_frozen BK101.out 0; have hfz82_1 := blk_frozen BK101.out 1; have hfz82_2 := blk_frozen BK101.out 2; have hfz82_3 := blk_frozen BK101.out 3; have hfz82_4 := blk_frozen BK101.out 4; have hfz82_5 := blk_frozen BK101.out 5) | ((with_reducible refine gate_callee (f := 20) rfl ?_); refine goesL_ (some 80) rfl rfl Tryd.func20 (by kernel_rfl) rfl #[.agg #[.string t105, .slice Ao77 x122001_33.length co77, .slice Ao78 x122002_47.length co78, .slice Ao26 t112.length co26, .slice Ao27 t115.length co27, .slice Ao79 x122005_61.length co79], .agg #[.string a0_0, .slice A0_1 l0_1.length c0_1, .slice A0_2 l0_2.length c0_2, .slice A0_3 l0_3.length c0_3, .slice A0_4 l0_4.length c0_4, .slice A0_5 l0_5.length c0_5]] rfl tm ?_; (with_reducible refine (budwoodref10_Same.calls kj61 t105 _ _ x122001_33 _ _ x122002_47 _ _ t112 _ _ t115 _ _ x122005_61 a0_0 _ _ l0_1 _ _ l0_2 _ _ l0_3 _ _ l0_4 _ _ l0_5 true _ ?side1 ?side2 ?side3 ?side4 ?side5 ?side6 ?side7 ?side8 ?side9 ?side10 ?side11 ?side12 ?side13 ?side14 ?side15 ?side16 ?side17 ?side18 ?side19 ?side20 A71.out).mono ?_); (case side1 => exact tr HO_122001.out); (case side2 => exact rl HO_122001.out); (case side3 => exact tr HO_122002.out); (case side4 => exact rl HO_122002.out); (case side5 => exact tr HO_122003.out); (case side6 => exact rl HO_122003.out); (case side7 => exact tr HO_122004.out); (case side8 => exact rl HO_122004.out); (case side9 => exact tr HO_122005.out); (case side10 => exact rl HO_122005.out); (case side11 => exact tc (Kd.C_below HR0_1.out HB.out)); (case side12 => exact HC0_1.out); (case side13 => exact tc (Kd.C_below HR0_2.out HB.out)); (case side14 => exact HC0_2.out); (case side15 => exact tc (Kd.C_below HR0_3.out HB.out)); (case side16 => exact HC0_3.out); (case side17 => exact tc (Kd.C_below HR0_4.out HB.out)); (case side18 => exact HC0_4.out); (case side19 => exact tc (Kd.C_below HR0_5.out HB.out)); (case side20 => exact HC0_5.out); rintro e w83 ⟨rfl, hb⟩; refine ⟨_, rfl, ?_⟩; replace HO_122001 := ra HO_122001.out hb; replace HO_122002 := ra HO_122002.out hb; replace HO_122003 := ra HO_122003.out hb; replace HO_122004 := ra HO_122004.out hb; replace HO_122005 := ra HO_122005.out hb; replace BK101 := ba BK101.out hb; replace BK121 := ba BK121.out hb; replace HB := Aside0.mk (below_step (tg2 HB.out GE101.out GE121.out) hb); (try clear hb); (try clear hb2); (try clear hk); (try clear hi)) | (go_at_call 14; (with_reducible refine (budwoodlaw11_awake.calls kj61  t137 _ ?side1 A74.out).mono ?_); (case side1 => first | exact HG.out | exact Glob.below HG.out (tg2 HB.out GE101.out GE121.out)); rintro e w84 ⟨rfl, hb⟩; replace HO_122001 := ra HO_122001.out hb; replace HO_122002 := ra HO_122002.out hb; replace HO_122003 := ra HO_122003.out hb; replace HO_122004 := ra HO_122004.out hb; replace HO_122005 := ra HO_122005.out hb; replace BK101 := ba BK101.out hb; replace BK121 := ba BK121.out hb; replace HB := Aside0.mk (below_step (tg2 HB.out GE101.out GE121.out) hb); (try clear hb); (try clear hb2); (try clear hk); (try clear hi)))
                  go_ret
                  exact ⟨by first | rfl | (simp [errW_none, errW_some] <;> rfl) | (simp [*, errW_none, errW_some] <;> rfl), tg2 HB.out GE101.out GE121.out⟩
                 ·rw [if_neg c73] at H
                  have c73b0 : (t134 == 0) = false := beq_eq_false_iff_ne.mpr c73
                  have c73b1 : (t134 != 0) = true := bne_iff_ne.mpr c73
                  obtain rfl := Option.some.inj H
                  have hnb85 := NB121_101.out
                  have hnc85 := NB101_121.out
                  have hcz86_0 := cz BK121.out 0 (.string t105)
                  have hcz86_1 := cz BK121.out 1 (u122001)
                  have hcz86_2 := cz BK121.out 2 (u122002)
                  have hcz86_3 := cz BK121.out 3 (.slice Ao26 t112.length co26)
                  have hcz86_4 := cz BK121.out 4 (.slice Ao27 t115.length co27)
                  have hcz86_5 := cz BK121.out 5 (u122005)
                  have hfz86_0 := blk_frozen BK121.out 0
                  have hfz86_1 := blk_frozen BK121.out 1
                  have hfz86_2 := blk_frozen BK121.out 2
                  have hfz86_3 := blk_frozen BK121.out 3
                  have hfz86_4 := blk_frozen BK121.out 4
                  have hfz86_5 := blk_frozen BK121.out 5
                  obtain ⟨Ao87, co87, eo87⟩ := Kd.R_slice HO_122001.out
                  subst eo87
                  obtain ⟨Ao88, co88, eo88⟩ := Kd.R_slice HO_122002.out
                  subst eo88
                  obtain ⟨Ao89, co89, eo89⟩ := Kd.R_slice HO_122005.out
                  subst eo89
                  go_wp2_with (first | ((with_reducible refine gate_callee (f := 16) rfl ?_); refine goesL_ (some 75) rfl rfl Tryd.func16 (by kernel_rfl) rfl #[.agg #[.string t105, .slice Ao87 x122001_33.length co87, .slice Ao88 x122002_47.length co88, .slice Ao26 t112.length co26, .slice Ao27 t115.length co27, .slice Ao89 x122005_61.length co89]] rfl tm ?_; (with_reducible refine (valid_Module.calls kj61 t105 _ _ x122001_33 _ _ x122002_47 _ _ t112 _ _ t115 _ _ x122005_61 t134 t135 _ ?side11 ?side1 ?side2 ?side3 ?side4 ?side5 ?side6 ?side7 ?side8 ?side9 ?side10 A70.out).mono ?_); (case side1 => exact tr HO_122001.out); (case side2 => exact rl HO_122001.out); (case side3 => exact tr HO_122002.out); (case side4 => exact rl HO_122002.out); (case side5 => exact tr HO_122003.out); (case side6 => exact rl HO_122003.out); (case side7 => exact tr HO_122004.out); (case side8 => exact rl HO_122004.out); (case side9 => exact tr HO_122005.out); (case side10 => exact rl HO_122005.out); (case side11 => first | exact HG.out | exact Glob.below HG.out (tg2 HB.out GE101.out GE121.out)); rintro e w90 ⟨rfl, hb⟩; refine ⟨_, rfl, ?_⟩; replace HO_122001 := ra HO_122001.out hb; replace HO_122002 := ra HO_122002.out hb; replace HO_122003 := ra HO_122003.out hb; replace HO_122004 := ra HO_122004.out hb; replace HO_122005 := ra HO_122005.out hb; replace BK101 := ba BK101.out hb; replace BK121 := ba BK121.out hb; replace HB := Aside0.mk (below_step (tg2 HB.out GE101.out GE121.out) hb); (try clear hb); (try clear hb2); (try clear hk); (try clear hi); have hcz91_0 := cz BK121.out 0 (.string t105); have hcz91_1 := cz BK121.out 1 (.slice Ao87 x122001_33.length co87); have hcz91_2 := cz BK121.out 2 (.slice Ao88 x122002_47.length co88); have hcz91_3 := cz BK121.out 3 (.slice Ao26 t112.length co26); have hcz91_4 := cz BK121.out 4 (.slice Ao27 t115.length co27); have hcz91_5 := cz BK121.out 5 (.slice Ao89 x122005_61.length co89); have hfz91_0 := blk_frozen BK121.out 0; have hfz91_1 := blk_frozen BK121.out 1; have hfz91_2 := blk_frozen BK121.out 2; have hfz91_3 := blk_frozen BK121.out 3; have hfz91_4 := blk_frozen BK121.out 4; have hfz91_5 := blk_frozen BK121.out 5; have hcz92_0 := cz BK101.out 0 (.string a0_0); have hcz92_1 := cz BK101.out 1 (.slice A0_1 l0_1.length c0_1); have hcz92_2 := cz BK101.out 2 (.slice A0_2 l0_2.length c0_2); have hcz92_3 := cz BK101.out 3 (.slice A0_3 l0_3.length c0_3); have hcz92_4 := cz BK101.out 4 (.slice A0_4 l0_4.length c0_4); have hcz92_5 := cz BK101.out 5 (.slice A0_5 l0_5.length c0_5); have hfz92_0 := blk_frozen BK101.out 0; have hfz92_1 := blk_frozen BK101.out 1; have hfz92_2 := blk_frozen BK101.out 2; have hfz92_3 := blk_frozen BK101.out 3; have hfz92_4 := blk_frozen BK101.out 4; have hfz92_5 := blk_frozen BK101.out 5) | ((with_reducible refine gate_callee (f := 20) rfl ?_); refine goesL_ (some 80) rfl rfl Tryd.func20 (by kernel_rfl) rfl #[.agg #[.string t105, .slice Ao87 x122001_33.length co87, .slice Ao88 x122002_47.length co88, .slice Ao26 t112.length co26, .slice Ao27 t115.length co27, .slice Ao89 x122005_61.length co89], .agg #[.string a0_0, .slice A0_1 l0_1.length c0_1, .slice A0_2 l0_2.length c0_2, .slice A0_3 l0_3.length c0_3, .slice A0_4 l0_4.length c0_4, .slice A0_5 l0_5.length c0_5]] rfl tm ?_; (with_reducible refine (budwoodref10_Same.calls kj61 t105 _ _ x122001_33 _ _ x122002_47 _ _ t112 _ _ t115 _ _ x122005_61 a0_0 _ _ l0_1 _ _ l0_2 _ _ l0_3 _ _ l0_4 _ _ l0_5 true _ ?side1 ?side2 ?side3 ?side4 ?side5 ?side6 ?side7 ?side8 ?side9 ?side10 ?side11 ?side12 ?side13 ?side14 ?side15 ?side16 ?side17 ?side18 ?side19 ?side20 A71.out).mono ?_); (case side1 => exact tr HO_122001.out); (case side2 => exact rl HO_122001.out); (case side3 => exact tr HO_122002.out); (case side4 => exact rl HO_122002.out); (case side5 => exact tr HO_122003.out); (case side6 => exact rl HO_122003.out); (case side7 => exact tr HO_122004.out); (case side8 => exact rl HO_122004.out); (case side9 => exact tr HO_122005.out); (case side10 => exact rl HO_122005.out); (case side11 => exact tc (Kd.C_below HR0_1.out HB.out)); (case side12 => exact HC0_1.out); (case side13 => exact tc (Kd.C_below HR0_2.out HB.out)); (case side14 => exact HC0_2.out); (case side15 => exact tc (Kd.C_below HR0_3.out HB.out)); (case side16 => exact HC0_3.out); (case side17 => exact tc (Kd.C_below HR0_4.out HB.out)); (case side18 => exact HC0_4.out); (case side19 => exact tc (Kd.C_below HR0_5.out HB.out)); (case side20 => exact HC0_5.out); rintro e w93 ⟨rfl, hb⟩; refine ⟨_, rfl, ?_⟩; replace HO_122001 := ra HO_122001.out hb; replace HO_122002 := ra HO_122002.out hb; replace HO_122003 := ra HO_122003.out hb; replace HO_122004 := ra HO_122004.out hb; replace HO_122005 := ra HO_122005.out hb; replace BK101 := ba BK101.out hb; replace BK121 := ba BK121.out hb; replace HB := Aside0.mk (below_step (tg2 HB.out GE101.out GE121.out) hb); (try clear hb); (try clear hb2); (try clear hk); (try clear hi)))
                  go_ret
                  exact ⟨by first | rfl | (simp [errW_none, errW_some] <;> rfl) | (simp [*, errW_none, errW_some] <;> rfl), tg2 HB.out GE101.out GE121.out⟩
                ·replace c72 := Bool.eq_false_iff.mpr c72
                 subst c72
                 have H1 : (if t134 = 1 then ((valid_Check.f kj61 t105 x122001_33 x122002_47 t112 t115 x122005_61).bind fun t138 => (if t138 = 20 then ((budwoodlaw11_awake.f kj61).bind fun t139 => (some t139)) else (some false))) else (if t134 = 3 then ((valid_Check.f kj61 t105 x122001_33 x122002_47 t112 t115 x122005_61).bind fun t140 => (if t140 = 20 then ((budwoodlaw11_awake.f kj61).bind fun t141 => (some t141)) else (some false))) else (if t134 = 6 then ((valid_Check.f kj61 t105 x122001_33 x122002_47 t112 t115 x122005_61).bind fun t142 => (if t142 = 20 then ((budwoodlaw11_awake.f kj61).bind fun t143 => (some t143)) else (some false))) else (if t134 = 4 then ((valid_Check.f kj61 t105 x122001_33 x122002_47 t112 t115 x122005_61).bind fun t144 => (if t144 = 20 then ((budwoodlaw11_awake.f kj61).bind fun t145 => (some t145)) else (some false))) else (some false))))) = some r := by rw [if_neg (show ¬ (false = true) by decide)] at H; exact H
                 clear H
                 have H := H1
                 clear H1
                 by_cases c94 : t134 = 1
                 ·rw [if_pos c94] at H
                  have c94b0 : (t134 == 1) = true := beq_iff_eq.mpr c94
                  have c94b1 : (t134 != 1) = false := bne_eq_false_iff_eq.mpr c94
                  clear c94
                  replace H := Option.bind_eq_some_iff.mp H
                  obtain ⟨t138, A950, H⟩ := H
                  replace H : (if t138 = 20 then ((budwoodlaw11_awake.f kj61).bind fun t139 => (some t139)) else (some false)) = some r := H
                  have A95 := Aside0.mk A950
                  clear A950
                  by_cases c96 : t138 = 20
                  ·rw [if_pos c96] at H
                   have c96b0 : (t138 == 20) = true := beq_iff_eq.mpr c96
                   have c96b1 : (t138 != 20) = false := bne_eq_false_iff_eq.mpr c96
                   clear c96
                   replace H := Option.bind_eq_some_iff.mp H
                   obtain ⟨t139, A970, H⟩ := H
                   replace H : (some t139) = some r := H
                   have A97 := Aside0.mk A970
                   clear A970
                   obtain rfl := Option.some.inj H
                   have hnb98 := NB121_101.out
                   have hnc98 := NB101_121.out
                   have hcz99_0 := cz BK121.out 0 (.string t105)
                   have hcz99_1 := cz BK121.out 1 (u122001)
                   have hcz99_2 := cz BK121.out 2 (u122002)
                   have hcz99_3 := cz BK121.out 3 (.slice Ao26 t112.length co26)
                   have hcz99_4 := cz BK121.out 4 (.slice Ao27 t115.length co27)
                   have hcz99_5 := cz BK121.out 5 (u122005)
                   have hfz99_0 := blk_frozen BK121.out 0
                   have hfz99_1 := blk_frozen BK121.out 1
                   have hfz99_2 := blk_frozen BK121.out 2
                   have hfz99_3 := blk_frozen BK121.out 3
                   have hfz99_4 := blk_frozen BK121.out 4
                   have hfz99_5 := blk_frozen BK121.out 5
                   obtain ⟨Ao100, co100, eo100⟩ := Kd.R_slice HO_122001.out
                   subst eo100
                   obtain ⟨Ao101, co101, eo101⟩ := Kd.R_slice HO_122002.out
                   subst eo101
                   obtain ⟨Ao102, co102, eo102⟩ := Kd.R_slice HO_122005.out
                   subst eo102
                   go_wp2_with (first | ((with_reducible refine gate_callee (f := 16) rfl ?_); refine goesL_ (some 75) rfl rfl Tryd.func16 (by kernel_rfl) rfl #[.agg #[.string t105, .slice Ao100 x122001_33.length co100, .slice Ao101 x122002_47.length co101, .slice Ao26 t112.length co26, .slice Ao27 t115.length co27, .slice Ao102 x122005_61.length co102]] rfl tm ?_; (with_reducible refine (valid_Module.calls kj61 t105 _ _ x122001_33 _ _ x122002_47 _ _ t112 _ _ t115 _ _ x122005_61 t134 t135 _ ?side11 ?side1 ?side2 ?side3 ?side4 ?side5 ?side6 ?side7 ?side8 ?side9 ?side10 A70.out).mono ?_); (case side1 => exact tr HO_122001.out); (case side2 => exact rl HO_122001.out); (case side3 => exact tr HO_122002.out); (case side4 => exact rl HO_122002.out); (case side5 => exact tr HO_122003.out); (case side6 => exact rl HO_122003.out); (case side7 => exact tr HO_122004.out); (case side8 => exact rl HO_122004.out); (case side9 => exact tr HO_122005.out); (case side10 => exact rl HO_122005.out); (case side11 => first | exact HG.out | exact Glob.below HG.out (tg2 HB.out GE101.out GE121.out)); rintro e w103 ⟨rfl, hb⟩; refine ⟨_, rfl, ?_⟩; replace HO_122001 := ra HO_122001.out hb; replace HO_122002 := ra HO_122002.out hb; replace HO_122003 := ra HO_122003.out hb; replace HO_122004 := ra HO_122004.out hb; replace HO_122005 := ra HO_122005.out hb; replace BK101 := ba BK101.out hb; replace BK121 := ba BK121.out hb; replace HB := Aside0.mk (below_step (tg2 HB.out GE101.out GE121.out) hb); (try clear hb); (try clear hb2); (try clear hk); (try clear hi); have hcz104_0 := cz BK121.out 0 (.string t105); have hcz104_1 := cz BK121.out 1 (.slice Ao100 x122001_33.length co100); have hcz104_2 := cz BK121.out 2 (.slice Ao101 x122002_47.length co101); have hcz104_3 := cz BK121.out 3 (.slice Ao26 t112.length co26); have hcz104_4 := cz BK121.out 4 (.slice Ao27 t115.length co27); have hcz104_5 := cz BK121.out 5 (.slice Ao102 x122005_61.length co102); have hfz104_0 := blk_frozen BK121.out 0; have hfz104_1 := blk_frozen BK121.out 1; have hfz104_2 := blk_frozen BK121.out 2; have hfz104_3 := blk_frozen BK121.out 3; have hfz104_4 := blk_frozen BK121.out 4; have hfz104_5 := blk_frozen BK121.out 5; have hcz105_0 := cz BK101.out 0 (.string a0_0); have hcz105_1 := cz BK101.out 1 (.slice A0_1 l0_1.length c0_1); have hcz105_2 := cz BK101.out 2 (.slice A0_2 l0_2.length c0_2); have hcz105_3 := cz BK101.out 3 (.slice A0_3 l0_3.length c0_3); have hcz105_4 := cz BK101.out 4 (.slice A0_4 l0_4.length c0_4); have hcz105_5 := cz BK101.out 5 (.slice A0_5 l0_5.length c0_5); have hfz105_0 := blk_frozen BK101.out 0; have hfz105_1 := blk_frozen BK101.out 1; have hfz105_2 := blk_frozen BK101.out 2; have hfz105_3 := blk_frozen BK101.out 3; have hfz105_4 := blk_frozen BK101.out 4; have hfz105_5 := blk_frozen BK101.out 5) | ((with_reducible refine gate_callee (f := 20) rfl ?_); refine goesL_ (some 80) rfl rfl Tryd.func20 (by kernel_rfl) rfl #[.agg #[.string t105, .slice Ao100 x122001_33.length co100, .slice Ao101 x122002_47.length co101, .slice Ao26 t112.length co26, .slice Ao27 t115.length co27, .slice Ao102 x122005_61.length co102], .agg #[.string a0_0, .slice A0_1 l0_1.length c0_1, .slice A0_2 l0_2.length c0_2, .slice A0_3 l0_3.length c0_3, .slice A0_4 l0_4.length c0_4, .slice A0_5 l0_5.length c0_5]] rfl tm ?_; (with_reducible refine (budwoodref10_Same.calls kj61 t105 _ _ x122001_33 _ _ x122002_47 _ _ t112 _ _ t115 _ _ x122005_61 a0_0 _ _ l0_1 _ _ l0_2 _ _ l0_3 _ _ l0_4 _ _ l0_5 false _ ?side1 ?side2 ?side3 ?side4 ?side5 ?side6 ?side7 ?side8 ?side9 ?side10 ?side11 ?side12 ?side13 ?side14 ?side15 ?side16 ?side17 ?side18 ?side19 ?side20 A71.out).mono ?_); (case side1 => exact tr HO_122001.out); (case side2 => exact rl HO_122001.out); (case side3 => exact tr HO_122002.out); (case side4 => exact rl HO_122002.out); (case side5 => exact tr HO_122003.out); (case side6 => exact rl HO_122003.out); (case side7 => exact tr HO_122004.out); (case side8 => exact rl HO_122004.out); (case side9 => exact tr HO_122005.out); (case side10 => exact rl HO_122005.out); (case side11 => exact tc (Kd.C_below HR0_1.out HB.out)); (case side12 => exact HC0_1.out); (case side13 => exact tc (Kd.C_below HR0_2.out HB.out)); (case side14 => exact HC0_2.out); (case side15 => exact tc (Kd.C_below HR0_3.out HB.out)); (case side16 => exact HC0_3.out); (case side17 => exact tc (Kd.C_below HR0_4.out HB.out)); (case side18 => exact HC0_4.out); (case side19 => exact tc (Kd.C_below HR0_5.out HB.out)); (case side20 => exact HC0_5.out); rintro e w106 ⟨rfl, hb⟩; refine ⟨_, rfl, ?_⟩; replace HO_122001 := ra HO_122001.out hb; replace HO_122002 := ra HO_122002.out hb; replace HO_122003 := ra HO_122003.out hb; replace HO_122004 := ra HO_122004.out hb; replace HO_122005 := ra HO_122005.out hb; replace BK101 := ba BK101.out hb; replace BK121 := ba BK121.out hb; replace HB := Aside0.mk (below_step (tg2 HB.out GE101.out GE121.out) hb); (try clear hb); (try clear hb2); (try clear hk); (try clear hi); have hcz107_0 := cz BK121.out 0 (.string t105); have hcz107_1 := cz BK121.out 1 (.slice Ao100 x122001_33.length co100); have hcz107_2 := cz BK121.out 2 (.slice Ao101 x122002_47.length co101); have hcz107_3 := cz BK121.out 3 (.slice Ao26 t112.length co26); have hcz107_4 := cz BK121.out 4 (.slice Ao27 t115.length co27); have hcz107_5 := cz BK121.out 5 (.slice Ao102 x122005_61.length co102); have hfz107_0 := blk_frozen BK121.out 0; have hfz107_1 := blk_frozen BK121.out 1; have hfz107_2 := blk_frozen BK121.out 2; have hfz107_3 := blk_frozen BK121.out 3; have hfz107_4 := blk_frozen BK121.out 4; have hfz107_5 := blk_frozen BK121.out 5) | (go_at_call 18; (with_reducible refine (valid_Check.calls kj61 t105 _ _ x122001_33 _ _ x122002_47 _ _ t112 _ _ t115 _ _ x122005_61 t138 _ ?side11 ?side1 ?side2 ?side3 ?side4 ?side5 ?side6 ?side7 ?side8 ?side9 ?side10 A95.out).mono ?_); (case side1 => exact tr HO_122001.out); (case side2 => exact rl HO_122001.out); (case side3 => exact tr HO_122002.out); (case side4 => exact rl HO_122002.out); (case side5 => exact tr HO_122003.out); (case side6 => exact rl HO_122003.out); (case side7 => exact tr HO_122004.out); (case side8 => exact rl HO_122004.out); (case side9 => exact tr HO_122005.out); (case side10 => exact rl HO_122005.out); (case side11 => first | exact HG.out | exact Glob.below HG.out (tg2 HB.out GE101.out GE121.out)); rintro e w108 ⟨rfl, hb⟩; replace HO_122001 := ra HO_122001.out hb; replace HO_122002 := ra HO_122002.out hb; replace HO_122003 := ra HO_122003.out hb; replace HO_122004 := ra HO_122004.out hb; replace HO_122005 := ra HO_122005.out hb; replace BK101 := ba BK101.out hb; replace BK121 := ba BK121.out hb; replace HB := Aside0.mk (below_step (tg2 HB.out GE101.out GE121.out) hb); (try clear hb); (try clear hb2); (try clear hk); (try clear hi)) | (go_at_call 14; (with_reducible refine (budwoodlaw11_awake.calls kj61  t139 _ ?side1 A97.out).mono ?_); (case side1 => first | exact HG.out | exact Glob.below HG.out (tg2 HB.out GE101.out GE121.out)); rintro e w109 ⟨rfl, hb⟩; replace HO_122001 := ra HO_122001.out hb; replace HO_122002 := ra HO_122002.out hb; replace HO_122003 := ra HO_122003.out hb; replace HO_122004 := ra HO_122004.out hb; replace HO_122005 := ra HO_122005.out hb; replace BK101 := ba BK101.out hb; replace BK121 := ba BK121.out hb; replace HB := Aside0.mk (below_step (tg2 HB.out GE101.out GE121.out) hb); (try clear hb); (try clear hb2); (try clear hk); (try clear hi)))
                   go_ret
                   exact ⟨by first | rfl | (simp [errW_none, errW_some] <;> rfl) | (simp [*, errW_none, errW_some] <;> rfl), tg2 HB.out GE101.out GE121.out⟩
                  ·rw [if_neg c96] at H
                   have c96b0 : (t138 == 20) = false := beq_eq_false_iff_ne.mpr c96
                   have c96b1 : (t138 != 20) = true := bne_iff_ne.mpr c96
                   obtain rfl := Option.some.inj H
                   have hnb110 := NB121_101.out
                   have hnc110 := NB101_121.out
                   have hcz111_0 := cz BK121.out 0 (.string t105)
                   have hcz111_1 := cz BK121.out 1 (u122001)
                   have hcz111_2 := cz BK121.out 2 (u122002)
                   have hcz111_3 := cz BK121.out 3 (.slice Ao26 t112.length co26)
                   have hcz111_4 := cz BK121.out 4 (.slice Ao27 t115.length co27)
                   have hcz111_5 := cz BK121.out 5 (u122005)
                   have hfz111_0 := blk_frozen BK121.out 0
                   have hfz111_1 := blk_frozen BK121.out 1
                   have hfz111_2 := blk_frozen BK121.out 2
                   have hfz111_3 := blk_frozen BK121.out 3
                   have hfz111_4 := blk_frozen BK121.out 4
                   have hfz111_5 := blk_frozen BK121.out 5
                   obtain ⟨Ao112, co112, eo112⟩ := Kd.R_slice HO_122001.out
                   subst eo112
                   obtain ⟨Ao113, co113, eo113⟩ := Kd.R_slice HO_122002.out
                   subst eo113
                   obtain ⟨Ao114, co114, eo114⟩ := Kd.R_slice HO_122005.out
                   subst eo114
                   go_wp2_with (first | ((with_reducible refine gate_callee (f := 16) rfl ?_); refine goesL_ (some 75) rfl rfl Tryd.func16 (by kernel_rfl) rfl #[.agg #[.string t105, .slice Ao112 x122001_33.length co112, .slice Ao113 x122002_47.length co113, .slice Ao26 t112.length co26, .slice Ao27 t115.length co27, .slice Ao114 x122005_61.length co114]] rfl tm ?_; (with_reducible refine (valid_Module.calls kj61 t105 _ _ x122001_33 _ _ x122002_47 _ _ t112 _ _ t115 _ _ x122005_61 t134 t135 _ ?side11 ?side1 ?side2 ?side3 ?side4 ?side5 ?side6 ?side7 ?side8 ?side9 ?side10 A70.out).mono ?_); (case side1 => exact tr HO_122001.out); (case side2 => exact rl HO_122001.out); (case side3 => exact tr HO_122002.out); (case side4 => exact rl HO_122002.out); (case side5 => exact tr HO_122003.out); (case side6 => exact rl HO_122003.out); (case side7 => exact tr HO_122004.out); (case side8 => exact rl HO_122004.out); (case side9 => exact tr HO_122005.out); (case side10 => exact rl HO_122005.out); (case side11 => first | exact HG.out | exact Glob.below HG.out (tg2 HB.out GE101.out GE121.out)); rintro e w115 ⟨rfl, hb⟩; refine ⟨_, rfl, ?_⟩; replace HO_122001 := ra HO_122001.out hb; replace HO_122002 := ra HO_122002.out hb; replace HO_122003 := ra HO_122003.out hb; replace HO_122004 := ra HO_122004.out hb; replace HO_122005 := ra HO_122005.out hb; replace BK101 := ba BK101.out hb; replace BK121 := ba BK121.out hb; replace HB := Aside0.mk (below_step (tg2 HB.out GE101.out GE121.out) hb); (try clear hb); (try clear hb2); (try clear hk); (try clear hi); have hcz116_0 := cz BK121.out 0 (.string t105); have hcz116_1 := cz BK121.out 1 (.slice Ao112 x122001_33.length co112); have hcz116_2 := cz BK121.out 2 (.slice Ao113 x122002_47.length co113); have hcz116_3 := cz BK121.out 3 (.slice Ao26 t112.length co26); have hcz116_4 := cz BK121.out 4 (.slice Ao27 t115.length co27); have hcz116_5 := cz BK121.out 5 (.slice Ao114 x122005_61.length co114); have hfz116_0 := blk_frozen BK121.out 0; have hfz116_1 := blk_frozen BK121.out 1; have hfz116_2 := blk_frozen BK121.out 2; have hfz116_3 := blk_frozen BK121.out 3; have hfz116_4 := blk_frozen BK121.out 4; have hfz116_5 := blk_frozen BK121.out 5; have hcz117_0 := cz BK101.out 0 (.string a0_0); have hcz117_1 := cz BK101.out 1 (.slice A0_1 l0_1.length c0_1); have hcz117_2 := cz BK101.out 2 (.slice A0_2 l0_2.length c0_2); have hcz117_3 := cz BK101.out 3 (.slice A0_3 l0_3.length c0_3); have hcz117_4 := cz BK101.out 4 (.slice A0_4 l0_4.length c0_4); have hcz117_5 := cz BK101.out 5 (.slice A0_5 l0_5.length c0_5); have hfz117_0 := blk_frozen BK101.out 0; have hfz117_1 := blk_frozen BK101.out 1; have hfz117_2 := blk_frozen BK101.out 2; have hfz117_3 := blk_frozen BK101.out 3; have hfz117_4 := blk_frozen BK101.out 4; have hfz117_5 := blk_frozen BK101.out 5) | ((with_reducible refine gate_callee (f := 20) rfl ?_); refine goesL_ (some 80) rfl rfl Tryd.func20 (by kernel_rfl) rfl #[.agg #[.string t105, .slice Ao112 x122001_33.length co112, .slice Ao113 x122002_47.length co113, .slice Ao26 t112.length co26, .slice Ao27 t115.length co27, .slice Ao114 x122005_61.length co114], .agg #[.string a0_0, .slice A0_1 l0_1.length c0_1, .slice A0_2 l0_2.length c0_2, .slice A0_3 l0_3.length c0_3, .slice A0_4 l0_4.length c0_4, .slice A0_5 l0_5.length c0_5]] rfl tm ?_; (with_reducible refine (budwoodref10_Same.calls kj61 t105 _ _ x122001_33 _ _ x122002_47 _ _ t112 _ _ t115 _ _ x122005_61 a0_0 _ _ l0_1 _ _ l0_2 _ _ l0_3 _ _ l0_4 _ _ l0_5 false _ ?side1 ?side2 ?side3 ?side4 ?side5 ?side6 ?side7 ?side8 ?side9 ?side10 ?side11 ?side12 ?side13 ?side14 ?side15 ?side16 ?side17 ?side18 ?side19 ?side20 A71.out).mono ?_); (case side1 => exact tr HO_122001.out); (case side2 => exact rl HO_122001.out); (case side3 => exact tr HO_122002.out); (case side4 => exact rl HO_122002.out); (case side5 => exact tr HO_122003.out); (case side6 => exact rl HO_122003.out); (case side7 => exact tr HO_122004.out); (case side8 => exact rl HO_122004.out); (case side9 => exact tr HO_122005.out); (case side10 => exact rl HO_122005.out); (case side11 => exact tc (Kd.C_below HR0_1.out HB.out)); (case side12 => exact HC0_1.out); (case side13 => exact tc (Kd.C_below HR0_2.out HB.out)); (case side14 => exact HC0_2.out); (case side15 => exact tc (Kd.C_below HR0_3.out HB.out)); (case side16 => exact HC0_3.out); (case side17 => exact tc (Kd.C_below HR0_4.out HB.out)); (case side18 => exact HC0_4.out); (case side19 => exact tc (Kd.C_below HR0_5.out HB.out)); (case side20 => exact HC0_5.out); rintro e w118 ⟨rfl, hb⟩; refine ⟨_, rfl, ?_⟩; replace HO_122001 := ra HO_122001.out hb; replace HO_122002 := ra HO_122002.out hb; replace HO_122003 := ra HO_122003.out hb; replace HO_122004 := ra HO_122004.out hb; replace HO_122005 := ra HO_122005.out hb; replace BK101 := ba BK101.out hb; replace BK121 := ba BK121.out hb; replace HB := Aside0.mk (below_step (tg2 HB.out GE101.out GE121.out) hb); (try clear hb); (try clear hb2); (try clear hk); (try clear hi); have hcz119_0 := cz BK121.out 0 (.string t105); have hcz119_1 := cz BK121.out 1 (.slice Ao112 x122001_33.length co112); have hcz119_2 := cz BK121.out 2 (.slice Ao113 x122002_47.length co113); have hcz119_3 := cz BK121.out 3 (.slice Ao26 t112.length co26); have hcz119_4 := cz BK121.out 4 (.slice Ao27 t115.length co27); have hcz119_5 := cz BK121.out 5 (.slice Ao114 x122005_61.length co114); have hfz119_0 := blk_frozen BK121.out 0; have hfz119_1 := blk_frozen BK121.out 1; have hfz119_2 := blk_frozen BK121.out 2; have hfz119_3 := blk_frozen BK121.out 3; have hfz119_4 := blk_frozen BK121.out 4; have hfz119_5 := blk_frozen BK121.out 5) | (go_at_call 18; (with_reducible refine (valid_Check.calls kj61 t105 _ _ x122001_33 _ _ x122002_47 _ _ t112 _ _ t115 _ _ x122005_61 t138 _ ?side11 ?side1 ?side2 ?side3 ?side4 ?side5 ?side6 ?side7 ?side8 ?side9 ?side10 A95.out).mono ?_); (case side1 => exact tr HO_122001.out); (case side2 => exact rl HO_122001.out); (case side3 => exact tr HO_122002.out); (case side4 => exact rl HO_122002.out); (case side5 => exact tr HO_122003.out); (case side6 => exact rl HO_122003.out); (case side7 => exact tr HO_122004.out); (case side8 => exact rl HO_122004.out); (case side9 => exact tr HO_122005.out); (case side10 => exact rl HO_122005.out); (case side11 => first | exact HG.out | exact Glob.below HG.out (tg2 HB.out GE101.out GE121.out)); rintro e w120 ⟨rfl, hb⟩; replace HO_122001 := ra HO_122001.out hb; replace HO_122002 := ra HO_122002.out hb; replace HO_122003 := ra HO_122003.out hb; replace HO_122004 := ra HO_122004.out hb; replace HO_122005 := ra HO_122005.out hb; replace BK101 := ba BK101.out hb; replace BK121 := ba BK121.out hb; replace HB := Aside0.mk (below_step (tg2 HB.out GE101.out GE121.out) hb); (try clear hb); (try clear hb2); (try clear hk); (try clear hi)))
                   go_ret
                   exact ⟨by first | rfl | (simp [errW_none, errW_some] <;> rfl) | (simp [*, errW_none, errW_some] <;> rfl), tg2 HB.out GE101.out GE121.out⟩
                 ·rw [if_neg c94] at H
                  have c94b0 : (t134 == 1) = false := beq_eq_false_iff_ne.mpr c94
                  have c94b1 : (t134 != 1) = true := bne_iff_ne.mpr c94
                  by_cases c121 : t134 = 3
                  ·rw [if_pos c121] at H
                   have c121b0 : (t134 == 3) = true := beq_iff_eq.mpr c121
                   have c121b1 : (t134 != 3) = false := bne_eq_false_iff_eq.mpr c121
                   clear c121
                   replace H := Option.bind_eq_some_iff.mp H
                   obtain ⟨t140, A1220, H⟩ := H
                   replace H : (if t140 = 20 then ((budwoodlaw11_awake.f kj61).bind fun t141 => (some t141)) else (some false)) = some r := H
                   have A122 := Aside0.mk A1220
                   clear A1220
                   by_cases c123 : t140 = 20
                   ·rw [if_pos c123] at H
                    have c123b0 : (t140 == 20) = true := beq_iff_eq.mpr c123
                    have c123b1 : (t140 != 20) = false := bne_eq_false_iff_eq.mpr c123
                    clear c123
                    replace H := Option.bind_eq_some_iff.mp H
                    obtain ⟨t141, A1240, H⟩ := H
                    replace H : (some t141) = some r := H
                    have A124 := Aside0.mk A1240
                    clear A1240
                    obtain rfl := Option.some.inj H
                    have hnb125 := NB121_101.out
                    have hnc125 := NB101_121.out
                    have hcz126_0 := cz BK121.out 0 (.string t105)
                    have hcz126_1 := cz BK121.out 1 (u122001)
                    have hcz126_2 := cz BK121.out 2 (u122002)
                    have hcz126_3 := cz BK121.out 3 (.slice Ao26 t112.length co26)
                    have hcz126_4 := cz BK121.out 4 (.slice Ao27 t115.length co27)
                    have hcz126_5 := cz BK121.out 5 (u122005)
                    have hfz126_0 := blk_frozen BK121.out 0
                    have hfz126_1 := blk_frozen BK121.out 1
                    have hfz126_2 := blk_frozen BK121.out 2
                    have hfz126_3 := blk_frozen BK121.out 3
                    have hfz126_4 := blk_frozen BK121.out 4
                    have hfz126_5 := blk_frozen BK121.out 5
                    obtain ⟨Ao127, co127, eo127⟩ := Kd.R_slice HO_122001.out
                    subst eo127
                    obtain ⟨Ao128, co128, eo128⟩ := Kd.R_slice HO_122002.out
                    subst eo128
                    obtain ⟨Ao129, co129, eo129⟩ := Kd.R_slice HO_122005.out
                    subst eo129
                    go_wp2_with (first | ((with_reducible refine gate_callee (f := 16) rfl ?_); refine goesL_ (some 75) rfl rfl Tryd.func16 (by kernel_rfl) rfl #[.agg #[.string t105, .slice Ao127 x122001_33.length co127, .slice Ao128 x122002_47.length co128, .slice Ao26 t112.length co26, .slice Ao27 t115.length co27, .slice Ao129 x122005_61.length co129]] rfl tm ?_; (with_reducible refine (valid_Module.calls kj61 t105 _ _ x122001_33 _ _ x122002_47 _ _ t112 _ _ t115 _ _ x122005_61 t134 t135 _ ?side11 ?side1 ?side2 ?side3 ?side4 ?side5 ?side6 ?side7 ?side8 ?side9 ?side10 A70.out).mono ?_); (case side1 => exact tr HO_122001.out); (case side2 => exact rl HO_122001.out); (case side3 => exact tr HO_122002.out); (case side4 => exact rl HO_122002.out); (case side5 => exact tr HO_122003.out); (case side6 => exact rl HO_122003.out); (case side7 => exact tr HO_122004.out); (case side8 => exact rl HO_122004.out); (case side9 => exact tr HO_122005.out); (case side10 => exact rl HO_122005.out); (case side11 => first | exact HG.out | exact Glob.below HG.out (tg2 HB.out GE101.out GE121.out)); rintro e w130 ⟨rfl, hb⟩; refine ⟨_, rfl, ?_⟩; replace HO_122001 := ra HO_122001.out hb; replace HO_122002 := ra HO_122002.out hb; replace HO_122003 := ra HO_122003.out hb; replace HO_122004 := ra HO_122004.out hb; replace HO_122005 := ra HO_122005.out hb; replace BK101 := ba BK101.out hb; replace BK121 := ba BK121.out hb; replace HB := Aside0.mk (below_step (tg2 HB.out GE101.out GE121.out) hb); (try clear hb); (try clear hb2); (try clear hk); (try clear hi); have hcz131_0 := cz BK121.out 0 (.string t105); have hcz131_1 := cz BK121.out 1 (.slice Ao127 x122001_33.length co127); have hcz131_2 := cz BK121.out 2 (.slice Ao128 x122002_47.length co128); have hcz131_3 := cz BK121.out 3 (.slice Ao26 t112.length co26); have hcz131_4 := cz BK121.out 4 (.slice Ao27 t115.length co27); have hcz131_5 := cz BK121.out 5 (.slice Ao129 x122005_61.length co129); have hfz131_0 := blk_frozen BK121.out 0; have hfz131_1 := blk_frozen BK121.out 1; have hfz131_2 := blk_frozen BK121.out 2; have hfz131_3 := blk_frozen BK121.out 3; have hfz131_4 := blk_frozen BK121.out 4; have hfz131_5 := blk_frozen BK121.out 5; have hcz132_0 := cz BK101.out 0 (.string a0_0); have hcz132_1 := cz BK101.out 1 (.slice A0_1 l0_1.length c0_1); have hcz132_2 := cz BK101.out 2 (.slice A0_2 l0_2.length c0_2); have hcz132_3 := cz BK101.out 3 (.slice A0_3 l0_3.length c0_3); have hcz132_4 := cz BK101.out 4 (.slice A0_4 l0_4.length c0_4); have hcz132_5 := cz BK101.out 5 (.slice A0_5 l0_5.length c0_5); have hfz132_0 := blk_frozen BK101.out 0; have hfz132_1 := blk_frozen BK101.out 1; have hfz132_2 := blk_frozen BK101.out 2; have hfz132_3 := blk_frozen BK101.out 3; have hfz132_4 := blk_frozen BK101.out 4; have hfz132_5 := blk_frozen BK101.out 5) | ((with_reducible refine gate_callee (f := 20) rfl ?_); refine goesL_ (some 80) rfl rfl Tryd.func20 (by kernel_rfl) rfl #[.agg #[.string t105, .slice Ao127 x122001_33.length co127, .slice Ao128 x122002_47.length co128, .slice Ao26 t112.length co26, .slice Ao27 t115.length co27, .slice Ao129 x122005_61.length co129], .agg #[.string a0_0, .slice A0_1 l0_1.length c0_1, .slice A0_2 l0_2.length c0_2, .slice A0_3 l0_3.length c0_3, .slice A0_4 l0_4.length c0_4, .slice A0_5 l0_5.length c0_5]] rfl tm ?_; (with_reducible refine (budwoodref10_Same.calls kj61 t105 _ _ x122001_33 _ _ x122002_47 _ _ t112 _ _ t115 _ _ x122005_61 a0_0 _ _ l0_1 _ _ l0_2 _ _ l0_3 _ _ l0_4 _ _ l0_5 false _ ?side1 ?side2 ?side3 ?side4 ?side5 ?side6 ?side7 ?side8 ?side9 ?side10 ?side11 ?side12 ?side13 ?side14 ?side15 ?side16 ?side17 ?side18 ?side19 ?side20 A71.out).mono ?_); (case side1 => exact tr HO_122001.out); (case side2 => exact rl HO_122001.out); (case side3 => exact tr HO_122002.out); (case side4 => exact rl HO_122002.out); (case side5 => exact tr HO_122003.out); (case side6 => exact rl HO_122003.out); (case side7 => exact tr HO_122004.out); (case side8 => exact rl HO_122004.out); (case side9 => exact tr HO_122005.out); (case side10 => exact rl HO_122005.out); (case side11 => exact tc (Kd.C_below HR0_1.out HB.out)); (case side12 => exact HC0_1.out); (case side13 => exact tc (Kd.C_below HR0_2.out HB.out)); (case side14 => exact HC0_2.out); (case side15 => exact tc (Kd.C_below HR0_3.out HB.out)); (case side16 => exact HC0_3.out); (case side17 => exact tc (Kd.C_below HR0_4.out HB.out)); (case side18 => exact HC0_4.out); (case side19 => exact tc (Kd.C_below HR0_5.out HB.out)); (case side20 => exact HC0_5.out); rintro e w133 ⟨rfl, hb⟩; refine ⟨_, rfl, ?_⟩; replace HO_122001 := ra HO_122001.out hb; replace HO_122002 := ra HO_122002.out hb; replace HO_122003 := ra HO_122003.out hb; replace HO_122004 := ra HO_122004.out hb; replace HO_122005 := ra HO_122005.out hb; replace BK101 := ba BK101.out hb; replace BK121 := ba BK121.out hb; replace HB := Aside0.mk (below_step (tg2 HB.out GE101.out GE121.out) hb); (try clear hb); (try clear hb2); (try clear hk); (try clear hi); have hcz134_0 := cz BK121.out 0 (.string t105); have hcz134_1 := cz BK121.out 1 (.slice Ao127 x122001_33.length co127); have hcz134_2 := cz BK121.out 2 (.slice Ao128 x122002_47.length co128); have hcz134_3 := cz BK121.out 3 (.slice Ao26 t112.length co26); have hcz134_4 := cz BK121.out 4 (.slice Ao27 t115.length co27); have hcz134_5 := cz BK121.out 5 (.slice Ao129 x122005_61.length co129); have hfz134_0 := blk_frozen BK121.out 0; have hfz134_1 := blk_frozen BK121.out 1; have hfz134_2 := blk_frozen BK121.out 2; have hfz134_3 := blk_frozen BK121.out 3; have hfz134_4 := blk_frozen BK121.out 4; have hfz134_5 := blk_frozen BK121.out 5) | (go_at_call 18; (with_reducible refine (valid_Check.calls kj61 t105 _ _ x122001_33 _ _ x122002_47 _ _ t112 _ _ t115 _ _ x122005_61 t140 _ ?side11 ?side1 ?side2 ?side3 ?side4 ?side5 ?side6 ?side7 ?side8 ?side9 ?side10 A122.out).mono ?_); (case side1 => exact tr HO_122001.out); (case side2 => exact rl HO_122001.out); (case side3 => exact tr HO_122002.out); (case side4 => exact rl HO_122002.out); (case side5 => exact tr HO_122003.out); (case side6 => exact rl HO_122003.out); (case side7 => exact tr HO_122004.out); (case side8 => exact rl HO_122004.out); (case side9 => exact tr HO_122005.out); (case side10 => exact rl HO_122005.out); (case side11 => first | exact HG.out | exact Glob.below HG.out (tg2 HB.out GE101.out GE121.out)); rintro e w135 ⟨rfl, hb⟩; replace HO_122001 := ra HO_122001.out hb; replace HO_122002 := ra HO_122002.out hb; replace HO_122003 := ra HO_122003.out hb; replace HO_122004 := ra HO_122004.out hb; replace HO_122005 := ra HO_122005.out hb; replace BK101 := ba BK101.out hb; replace BK121 := ba BK121.out hb; replace HB := Aside0.mk (below_step (tg2 HB.out GE101.out GE121.out) hb); (try clear hb); (try clear hb2); (try clear hk); (try clear hi)) | (go_at_call 14; (with_reducible refine (budwoodlaw11_awake.calls kj61  t141 _ ?side1 A124.out).mono ?_); (case side1 => first | exact HG.out | exact Glob.below HG.out (tg2 HB.out GE101.out GE121.out)); rintro e w136 ⟨rfl, hb⟩; replace HO_122001 := ra HO_122001.out hb; replace HO_122002 := ra HO_122002.out hb; replace HO_122003 := ra HO_122003.out hb; replace HO_122004 := ra HO_122004.out hb; replace HO_122005 := ra HO_122005.out hb; replace BK101 := ba BK101.out hb; replace BK121 := ba BK121.out hb; replace HB := Aside0.mk (below_step (tg2 HB.out GE101.out GE121.out) hb); (try clear hb); (try clear hb2); (try clear hk); (try clear hi)))
                    go_ret
                    exact ⟨by first | rfl | (simp [errW_none, errW_some] <;> rfl) | (simp [*, errW_none, errW_some] <;> rfl), tg2 HB.out GE101.out GE121.out⟩
                   ·rw [if_neg c123] at H
                    have c123b0 : (t140 == 20) = false := beq_eq_false_iff_ne.mpr c123
                    have c123b1 : (t140 != 20) = true := bne_iff_ne.mpr c123
                    obtain rfl := Option.some.inj H
                    have hnb137 := NB121_101.out
                    have hnc137 := NB101_121.out
                    have hcz138_0 := cz BK121.out 0 (.string t105)
                    have hcz138_1 := cz BK121.out 1 (u122001)
                    have hcz138_2 := cz BK121.out 2 (u122002)
                    have hcz138_3 := cz BK121.out 3 (.slice Ao26 t112.length co26)
                    have hcz138_4 := cz BK121.out 4 (.slice Ao27 t115.length co27)
                    have hcz138_5 := cz BK121.out 5 (u122005)
                    have hfz138_0 := blk_frozen BK121.out 0
                    have hfz138_1 := blk_frozen BK121.out 1
                    have hfz138_2 := blk_frozen BK121.out 2
                    have hfz138_3 := blk_frozen BK121.out 3
                    have hfz138_4 := blk_frozen BK121.out 4
                    have hfz138_5 := blk_frozen BK121.out 5
                    obtain ⟨Ao139, co139, eo139⟩ := Kd.R_slice HO_122001.out
                    subst eo139
                    obtain ⟨Ao140, co140, eo140⟩ := Kd.R_slice HO_122002.out
                    subst eo140
                    obtain ⟨Ao141, co141, eo141⟩ := Kd.R_slice HO_122005.out
                    subst eo141
                    go_wp2_with (first | ((with_reducible refine gate_callee (f := 16) rfl ?_); refine goesL_ (some 75) rfl rfl Tryd.func16 (by kernel_rfl) rfl #[.agg #[.string t105, .slice Ao139 x122001_33.length co139, .slice Ao140 x122002_47.length co140, .slice Ao26 t112.length co26, .slice Ao27 t115.length co27, .slice Ao141 x122005_61.length co141]] rfl tm ?_; (with_reducible refine (valid_Module.calls kj61 t105 _ _ x122001_33 _ _ x122002_47 _ _ t112 _ _ t115 _ _ x122005_61 t134 t135 _ ?side11 ?side1 ?side2 ?side3 ?side4 ?side5 ?side6 ?side7 ?side8 ?side9 ?side10 A70.out).mono ?_); (case side1 => exact tr HO_122001.out); (case side2 => exact rl HO_122001.out); (case side3 => exact tr HO_122002.out); (case side4 => exact rl HO_122002.out); (case side5 => exact tr HO_122003.out); (case side6 => exact rl HO_122003.out); (case side7 => exact tr HO_122004.out); (case side8 => exact rl HO_122004.out); (case side9 => exact tr HO_122005.out); (case side10 => exact rl HO_122005.out); (case side11 => first | exact HG.out | exact Glob.below HG.out (tg2 HB.out GE101.out GE121.out)); rintro e w142 ⟨rfl, hb⟩; refine ⟨_, rfl, ?_⟩; replace HO_122001 := ra HO_122001.out hb; replace HO_122002 := ra HO_122002.out hb; replace HO_122003 := ra HO_122003.out hb; replace HO_122004 := ra HO_122004.out hb; replace HO_122005 := ra HO_122005.out hb; replace BK101 := ba BK101.out hb; replace BK121 := ba BK121.out hb; replace HB := Aside0.mk (below_step (tg2 HB.out GE101.out GE121.out) hb); (try clear hb); (try clear hb2); (try clear hk); (try clear hi); have hcz143_0 := cz BK121.out 0 (.string t105); have hcz143_1 := cz BK121.out 1 (.slice Ao139 x122001_33.length co139); have hcz143_2 := cz BK121.out 2 (.slice Ao140 x122002_47.length co140); have hcz143_3 := cz BK121.out 3 (.slice Ao26 t112.length co26); have hcz143_4 := cz BK121.out 4 (.slice Ao27 t115.length co27); have hcz143_5 := cz BK121.out 5 (.slice Ao141 x122005_61.length co141); have hfz143_0 := blk_frozen BK121.out 0; have hfz143_1 := blk_frozen BK121.out 1; have hfz143_2 := blk_frozen BK121.out 2; have hfz143_3 := blk_frozen BK121.out 3; have hfz143_4 := blk_frozen BK121.out 4; have hfz143_5 := blk_frozen BK121.out 5; have hcz144_0 := cz BK101.out 0 (.string a0_0); have hcz144_1 := cz BK101.out 1 (.slice A0_1 l0_1.length c0_1); have hcz144_2 := cz BK101.out 2 (.slice A0_2 l0_2.length c0_2); have hcz144_3 := cz BK101.out 3 (.slice A0_3 l0_3.length c0_3); have hcz144_4 := cz BK101.out 4 (.slice A0_4 l0_4.length c0_4); have hcz144_5 := cz BK101.out 5 (.slice A0_5 l0_5.length c0_5); have hfz144_0 := blk_frozen BK101.out 0; have hfz144_1 := blk_frozen BK101.out 1; have hfz144_2 := blk_frozen BK101.out 2; have hfz144_3 := blk_frozen BK101.out 3; have hfz144_4 := blk_frozen BK101.out 4; have hfz144_5 := blk_frozen BK101.out 5) | ((with_reducible refine gate_callee (f := 20) rfl ?_); refine goesL_ (some 80) rfl rfl Tryd.func20 (by kernel_rfl) rfl #[.agg #[.string t105, .slice Ao139 x122001_33.length co139, .slice Ao140 x122002_47.length co140, .slice Ao26 t112.length co26, .slice Ao27 t115.length co27, .slice Ao141 x122005_61.length co141], .agg #[.string a0_0, .slice A0_1 l0_1.length c0_1, .slice A0_2 l0_2.length c0_2, .slice A0_3 l0_3.length c0_3, .slice A0_4 l0_4.length c0_4, .slice A0_5 l0_5.length c0_5]] rfl tm ?_; (with_reducible refine (budwoodref10_Same.calls kj61 t105 _ _ x122001_33 _ _ x122002_47 _ _ t112 _ _ t115 _ _ x122005_61 a0_0 _ _ l0_1 _ _ l0_2 _ _ l0_3 _ _ l0_4 _ _ l0_5 false _ ?side1 ?side2 ?side3 ?side4 ?side5 ?side6 ?side7 ?side8 ?side9 ?side10 ?side11 ?side12 ?side13 ?side14 ?side15 ?side16 ?side17 ?side18 ?side19 ?side20 A71.out).mono ?_); (case side1 => exact tr HO_122001.out); (case side2 => exact rl HO_122001.out); (case side3 => exact tr HO_122002.out); (case side4 => exact rl HO_122002.out); (case side5 => exact tr HO_122003.out); (case side6 => exact rl HO_122003.out); (case side7 => exact tr HO_122004.out); (case side8 => exact rl HO_122004.out); (case side9 => exact tr HO_122005.out); (case side10 => exact rl HO_122005.out); (case side11 => exact tc (Kd.C_below HR0_1.out HB.out)); (case side12 => exact HC0_1.out); (case side13 => exact tc (Kd.C_below HR0_2.out HB.out)); (case side14 => exact HC0_2.out); (case side15 => exact tc (Kd.C_below HR0_3.out HB.out)); (case side16 => exact HC0_3.out); (case side17 => exact tc (Kd.C_below HR0_4.out HB.out)); (case side18 => exact HC0_4.out); (case side19 => exact tc (Kd.C_below HR0_5.out HB.out)); (case side20 => exact HC0_5.out); rintro e w145 ⟨rfl, hb⟩; refine ⟨_, rfl, ?_⟩; replace HO_122001 := ra HO_122001.out hb; replace HO_122002 := ra HO_122002.out hb; replace HO_122003 := ra HO_122003.out hb; replace HO_122004 := ra HO_122004.out hb; replace HO_122005 := ra HO_122005.out hb; replace BK101 := ba BK101.out hb; replace BK121 := ba BK121.out hb; replace HB := Aside0.mk (below_step (tg2 HB.out GE101.out GE121.out) hb); (try clear hb); (try clear hb2); (try clear hk); (try clear hi); have hcz146_0 := cz BK121.out 0 (.string t105); have hcz146_1 := cz BK121.out 1 (.slice Ao139 x122001_33.length co139); have hcz146_2 := cz BK121.out 2 (.slice Ao140 x122002_47.length co140); have hcz146_3 := cz BK121.out 3 (.slice Ao26 t112.length co26); have hcz146_4 := cz BK121.out 4 (.slice Ao27 t115.length co27); have hcz146_5 := cz BK121.out 5 (.slice Ao141 x122005_61.length co141); have hfz146_0 := blk_frozen BK121.out 0; have hfz146_1 := blk_frozen BK121.out 1; have hfz146_2 := blk_frozen BK121.out 2; have hfz146_3 := blk_frozen BK121.out 3; have hfz146_4 := blk_frozen BK121.out 4; have hfz146_5 := blk_frozen BK121.out 5) | (go_at_call 18; (with_reducible refine (valid_Check.calls kj61 t105 _ _ x122001_33 _ _ x122002_47 _ _ t112 _ _ t115 _ _ x122005_61 t140 _ ?side11 ?side1 ?side2 ?side3 ?side4 ?side5 ?side6 ?side7 ?side8 ?side9 ?side10 A122.out).mono ?_); (case side1 => exact tr HO_122001.out); (case side2 => exact rl HO_122001.out); (case side3 => exact tr HO_122002.out); (case side4 => exact rl HO_122002.out); (case side5 => exact tr HO_122003.out); (case side6 => exact rl HO_122003.out); (case side7 => exact tr HO_122004.out); (case side8 => exact rl HO_122004.out); (case side9 => exact tr HO_122005.out); (case side10 => exact rl HO_122005.out); (case side11 => first | exact HG.out | exact Glob.below HG.out (tg2 HB.out GE101.out GE121.out)); rintro e w147 ⟨rfl, hb⟩; replace HO_122001 := ra HO_122001.out hb; replace HO_122002 := ra HO_122002.out hb; replace HO_122003 := ra HO_122003.out hb; replace HO_122004 := ra HO_122004.out hb; replace HO_122005 := ra HO_122005.out hb; replace BK101 := ba BK101.out hb; replace BK121 := ba BK121.out hb; replace HB := Aside0.mk (below_step (tg2 HB.out GE101.out GE121.out) hb); (try clear hb); (try clear hb2); (try clear hk); (try clear hi)))
                    go_ret
                    exact ⟨by first | rfl | (simp [errW_none, errW_some] <;> rfl) | (simp [*, errW_none, errW_some] <;> rfl), tg2 HB.out GE101.out GE121.out⟩
                  ·rw [if_neg c121] at H
                   have c121b0 : (t134 == 3) = false := beq_eq_false_iff_ne.mpr c121
                   have c121b1 : (t134 != 3) = true := bne_iff_ne.mpr c121
                   by_cases c148 : t134 = 6
                   ·rw [if_pos c148] at H
                    have c148b0 : (t134 == 6) = true := beq_iff_eq.mpr c148
                    have c148b1 : (t134 != 6) = false := bne_eq_false_iff_eq.mpr c148
                    clear c148
                    replace H := Option.bind_eq_some_iff.mp H
                    obtain ⟨t142, A1490, H⟩ := H
                    replace H : (if t142 = 20 then ((budwoodlaw11_awake.f kj61).bind fun t143 => (some t143)) else (some false)) = some r := H
                    have A149 := Aside0.mk A1490
                    clear A1490
                    by_cases c150 : t142 = 20
                    ·rw [if_pos c150] at H
                     have c150b0 : (t142 == 20) = true := beq_iff_eq.mpr c150
                     have c150b1 : (t142 != 20) = false := bne_eq_false_iff_eq.mpr c150
                     clear c150
                     replace H := Option.bind_eq_some_iff.mp H
                     obtain ⟨t143, A1510, H⟩ := H
                     replace H : (some t143) = some r := H
                     have A151 := Aside0.mk A1510
                     clear A1510
                     obtain rfl := Option.some.inj H
                     have hnb152 := NB121_101.out
                     have hnc152 := NB101_121.out
                     have hcz153_0 := cz BK121.out 0 (.string t105)
                     have hcz153_1 := cz BK121.out 1 (u122001)
                     have hcz153_2 := cz BK121.out 2 (u122002)
                     have hcz153_3 := cz BK121.out 3 (.slice Ao26 t112.length co26)
                     have hcz153_4 := cz BK121.out 4 (.slice Ao27 t115.length co27)
                     have hcz153_5 := cz BK121.out 5 (u122005)
                     have hfz153_0 := blk_frozen BK121.out 0
                     have hfz153_1 := blk_frozen BK121.out 1
                     have hfz153_2 := blk_frozen BK121.out 2
                     have hfz153_3 := blk_frozen BK121.out 3
                     have hfz153_4 := blk_frozen BK121.out 4
                     have hfz153_5 := blk_frozen BK121.out 5
                     obtain ⟨Ao154, co154, eo154⟩ := Kd.R_slice HO_122001.out
                     subst eo154
                     obtain ⟨Ao155, co155, eo155⟩ := Kd.R_slice HO_122002.out
                     subst eo155
                     obtain ⟨Ao156, co156, eo156⟩ := Kd.R_slice HO_122005.out
                     subst eo156
                     go_wp2_with (first | ((with_reducible refine gate_callee (f := 16) rfl ?_); refine goesL_ (some 75) rfl rfl Tryd.func16 (by kernel_rfl) rfl #[.agg #[.string t105, .slice Ao154 x122001_33.length co154, .slice Ao155 x122002_47.length co155, .slice Ao26 t112.length co26, .slice Ao27 t115.length co27, .slice Ao156 x122005_61.length co156]] rfl tm ?_; (with_reducible refine (valid_Module.calls kj61 t105 _ _ x122001_33 _ _ x122002_47 _ _ t112 _ _ t115 _ _ x122005_61 t134 t135 _ ?side11 ?side1 ?side2 ?side3 ?side4 ?side5 ?side6 ?side7 ?side8 ?side9 ?side10 A70.out).mono ?_); (case side1 => exact tr HO_122001.out); (case side2 => exact rl HO_122001.out); (case side3 => exact tr HO_122002.out); (case side4 => exact rl HO_122002.out); (case side5 => exact tr HO_122003.out); (case side6 => exact rl HO_122003.out); (case side7 => exact tr HO_122004.out); (case side8 => exact rl HO_122004.out); (case side9 => exact tr HO_122005.out); (case side10 => exact rl HO_122005.out); (case side11 => first | exact HG.out | exact Glob.below HG.out (tg2 HB.out GE101.out GE121.out)); rintro e w157 ⟨rfl, hb⟩; refine ⟨_, rfl, ?_⟩; replace HO_122001 := ra HO_122001.out hb; replace HO_122002 := ra HO_122002.out hb; replace HO_122003 := ra HO_122003.out hb; replace HO_122004 := ra HO_122004.out hb; replace HO_122005 := ra HO_122005.out hb; replace BK101 := ba BK101.out hb; replace BK121 := ba BK121.out hb; replace HB := Aside0.mk (below_step (tg2 HB.out GE101.out GE121.out) hb); (try clear hb); (try clear hb2); (try clear hk); (try clear hi); have hcz158_0 := cz BK121.out 0 (.string t105); have hcz158_1 := cz BK121.out 1 (.slice Ao154 x122001_33.length co154); have hcz158_2 := cz BK121.out 2 (.slice Ao155 x122002_47.length co155); have hcz158_3 := cz BK121.out 3 (.slice Ao26 t112.length co26); have hcz158_4 := cz BK121.out 4 (.slice Ao27 t115.length co27); have hcz158_5 := cz BK121.out 5 (.slice Ao156 x122005_61.length co156); have hfz158_0 := blk_frozen BK121.out 0; have hfz158_1 := blk_frozen BK121.out 1; have hfz158_2 := blk_frozen BK121.out 2; have hfz158_3 := blk_frozen BK121.out 3; have hfz158_4 := blk_frozen BK121.out 4; have hfz158_5 := blk_frozen BK121.out 5; have hcz159_0 := cz BK101.out 0 (.string a0_0); have hcz159_1 := cz BK101.out 1 (.slice A0_1 l0_1.length c0_1); have hcz159_2 := cz BK101.out 2 (.slice A0_2 l0_2.length c0_2); have hcz159_3 := cz BK101.out 3 (.slice A0_3 l0_3.length c0_3); have hcz159_4 := cz BK101.out 4 (.slice A0_4 l0_4.length c0_4); have hcz159_5 := cz BK101.out 5 (.slice A0_5 l0_5.length c0_5); have hfz159_0 := blk_frozen BK101.out 0; have hfz159_1 := blk_frozen BK101.out 1; have hfz159_2 := blk_frozen BK101.out 2; have hfz159_3 := blk_frozen BK101.out 3; have hfz159_4 := blk_frozen BK101.out 4; have hfz159_5 := blk_frozen BK101.out 5) | ((with_reducible refine gate_callee (f := 20) rfl ?_); refine goesL_ (some 80) rfl rfl Tryd.func20 (by kernel_rfl) rfl #[.agg #[.string t105, .slice Ao154 x122001_33.length co154, .slice Ao155 x122002_47.length co155, .slice Ao26 t112.length co26, .slice Ao27 t115.length co27, .slice Ao156 x122005_61.length co156], .agg #[.string a0_0, .slice A0_1 l0_1.length c0_1, .slice A0_2 l0_2.length c0_2, .slice A0_3 l0_3.length c0_3, .slice A0_4 l0_4.length c0_4, .slice A0_5 l0_5.length c0_5]] rfl tm ?_; (with_reducible refine (budwoodref10_Same.calls kj61 t105 _ _ x122001_33 _ _ x122002_47 _ _ t112 _ _ t115 _ _ x122005_61 a0_0 _ _ l0_1 _ _ l0_2 _ _ l0_3 _ _ l0_4 _ _ l0_5 false _ ?side1 ?side2 ?side3 ?side4 ?side5 ?side6 ?side7 ?side8 ?side9 ?side10 ?side11 ?side12 ?side13 ?side14 ?side15 ?side16 ?side17 ?side18 ?side19 ?side20 A71.out).mono ?_); (case side1 => exact tr HO_122001.out); (case side2 => exact rl HO_122001.out); (case side3 => exact tr HO_122002.out); (case side4 => exact rl HO_122002.out); (case side5 => exact tr HO_122003.out); (case side6 => exact rl HO_122003.out); (case side7 => exact tr HO_122004.out); (case side8 => exact rl HO_122004.out); (case side9 => exact tr HO_122005.out); (case side10 => exact rl HO_122005.out); (case side11 => exact tc (Kd.C_below HR0_1.out HB.out)); (case side12 => exact HC0_1.out); (case side13 => exact tc (Kd.C_below HR0_2.out HB.out)); (case side14 => exact HC0_2.out); (case side15 => exact tc (Kd.C_below HR0_3.out HB.out)); (case side16 => exact HC0_3.out); (case side17 => exact tc (Kd.C_below HR0_4.out HB.out)); (case side18 => exact HC0_4.out); (case side19 => exact tc (Kd.C_below HR0_5.out HB.out)); (case side20 => exact HC0_5.out); rintro e w160 ⟨rfl, hb⟩; refine ⟨_, rfl, ?_⟩; replace HO_122001 := ra HO_122001.out hb; replace HO_122002 := ra HO_122002.out hb; replace HO_122003 := ra HO_122003.out hb; replace HO_122004 := ra HO_122004.out hb; replace HO_122005 := ra HO_122005.out hb; replace BK101 := ba BK101.out hb; replace BK121 := ba BK121.out hb; replace HB := Aside0.mk (below_step (tg2 HB.out GE101.out GE121.out) hb); (try clear hb); (try clear hb2); (try clear hk); (try clear hi); have hcz161_0 := cz BK121.out 0 (.string t105); have hcz161_1 := cz BK121.out 1 (.slice Ao154 x122001_33.length co154); have hcz161_2 := cz BK121.out 2 (.slice Ao155 x122002_47.length co155); have hcz161_3 := cz BK121.out 3 (.slice Ao26 t112.length co26); have hcz161_4 := cz BK121.out 4 (.slice Ao27 t115.length co27); have hcz161_5 := cz BK121.out 5 (.slice Ao156 x122005_61.length co156); have hfz161_0 := blk_frozen BK121.out 0; have hfz161_1 := blk_frozen BK121.out 1; have hfz161_2 := blk_frozen BK121.out 2; have hfz161_3 := blk_frozen BK121.out 3; have hfz161_4 := blk_frozen BK121.out 4; have hfz161_5 := blk_frozen BK121.out 5) | (go_at_call 18; (with_reducible refine (valid_Check.calls kj61 t105 _ _ x122001_33 _ _ x122002_47 _ _ t112 _ _ t115 _ _ x122005_61 t142 _ ?side11 ?side1 ?side2 ?side3 ?side4 ?side5 ?side6 ?side7 ?side8 ?side9 ?side10 A149.out).mono ?_); (case side1 => exact tr HO_122001.out); (case side2 => exact rl HO_122001.out); (case side3 => exact tr HO_122002.out); (case side4 => exact rl HO_122002.out); (case side5 => exact tr HO_122003.out); (case side6 => exact rl HO_122003.out); (case side7 => exact tr HO_122004.out); (case side8 => exact rl HO_122004.out); (case side9 => exact tr HO_122005.out); (case side10 => exact rl HO_122005.out); (case side11 => first | exact HG.out | exact Glob.below HG.out (tg2 HB.out GE101.out GE121.out)); rintro e w162 ⟨rfl, hb⟩; replace HO_122001 := ra HO_122001.out hb; replace HO_122002 := ra HO_122002.out hb; replace HO_122003 := ra HO_122003.out hb; replace HO_122004 := ra HO_122004.out hb; replace HO_122005 := ra HO_122005.out hb; replace BK101 := ba BK101.out hb; replace BK121 := ba BK121.out hb; replace HB := Aside0.mk (below_step (tg2 HB.out GE101.out GE121.out) hb); (try clear hb); (try clear hb2); (try clear hk); (try clear hi)) | (go_at_call 14; (with_reducible refine (budwoodlaw11_awake.calls kj61  t143 _ ?side1 A151.out).mono ?_); (case side1 => first | exact HG.out | exact Glob.below HG.out (tg2 HB.out GE101.out GE121.out)); rintro e w163 ⟨rfl, hb⟩; replace HO_122001 := ra HO_122001.out hb; replace HO_122002 := ra HO_122002.out hb; replace HO_122003 := ra HO_122003.out hb; replace HO_122004 := ra HO_122004.out hb; replace HO_122005 := ra HO_122005.out hb; replace BK101 := ba BK101.out hb; replace BK121 := ba BK121.out hb; replace HB := Aside0.mk (below_step (tg2 HB.out GE101.out GE121.out) hb); (try clear hb); (try clear hb2); (try clear hk); (try clear hi)))
                     go_ret
                     exact ⟨by first | rfl | (simp [errW_none, errW_some] <;> rfl) | (simp [*, errW_none, errW_some] <;> rfl), tg2 HB.out GE101.out GE121.out⟩
                    ·rw [if_neg c150] at H
                     have c150b0 : (t142 == 20) = false := beq_eq_false_iff_ne.mpr c150
                     have c150b1 : (t142 != 20) = true := bne_iff_ne.mpr c150
                     obtain rfl := Option.some.inj H
                     have hnb164 := NB121_101.out
                     have hnc164 := NB101_121.out
                     have hcz165_0 := cz BK121.out 0 (.string t105)
                     have hcz165_1 := cz BK121.out 1 (u122001)
                     have hcz165_2 := cz BK121.out 2 (u122002)
                     have hcz165_3 := cz BK121.out 3 (.slice Ao26 t112.length co26)
                     have hcz165_4 := cz BK121.out 4 (.slice Ao27 t115.length co27)
                     have hcz165_5 := cz BK121.out 5 (u122005)
                     have hfz165_0 := blk_frozen BK121.out 0
                     have hfz165_1 := blk_frozen BK121.out 1
                     have hfz165_2 := blk_frozen BK121.out 2
                     have hfz165_3 := blk_frozen BK121.out 3
                     have hfz165_4 := blk_frozen BK121.out 4
                     have hfz165_5 := blk_frozen BK121.out 5
                     obtain ⟨Ao166, co166, eo166⟩ := Kd.R_slice HO_122001.out
                     subst eo166
                     obtain ⟨Ao167, co167, eo167⟩ := Kd.R_slice HO_122002.out
                     subst eo167
                     obtain ⟨Ao168, co168, eo168⟩ := Kd.R_slice HO_122005.out
                     subst eo168
                     go_wp2_with (first | ((with_reducible refine gate_callee (f := 16) rfl ?_); refine goesL_ (some 75) rfl rfl Tryd.func16 (by kernel_rfl) rfl #[.agg #[.string t105, .slice Ao166 x122001_33.length co166, .slice Ao167 x122002_47.length co167, .slice Ao26 t112.length co26, .slice Ao27 t115.length co27, .slice Ao168 x122005_61.length co168]] rfl tm ?_; (with_reducible refine (valid_Module.calls kj61 t105 _ _ x122001_33 _ _ x122002_47 _ _ t112 _ _ t115 _ _ x122005_61 t134 t135 _ ?side11 ?side1 ?side2 ?side3 ?side4 ?side5 ?side6 ?side7 ?side8 ?side9 ?side10 A70.out).mono ?_); (case side1 => exact tr HO_122001.out); (case side2 => exact rl HO_122001.out); (case side3 => exact tr HO_122002.out); (case side4 => exact rl HO_122002.out); (case side5 => exact tr HO_122003.out); (case side6 => exact rl HO_122003.out); (case side7 => exact tr HO_122004.out); (case side8 => exact rl HO_122004.out); (case side9 => exact tr HO_122005.out); (case side10 => exact rl HO_122005.out); (case side11 => first | exact HG.out | exact Glob.below HG.out (tg2 HB.out GE101.out GE121.out)); rintro e w169 ⟨rfl, hb⟩; refine ⟨_, rfl, ?_⟩; replace HO_122001 := ra HO_122001.out hb; replace HO_122002 := ra HO_122002.out hb; replace HO_122003 := ra HO_122003.out hb; replace HO_122004 := ra HO_122004.out hb; replace HO_122005 := ra HO_122005.out hb; replace BK101 := ba BK101.out hb; replace BK121 := ba BK121.out hb; replace HB := Aside0.mk (below_step (tg2 HB.out GE101.out GE121.out) hb); (try clear hb); (try clear hb2); (try clear hk); (try clear hi); have hcz170_0 := cz BK121.out 0 (.string t105); have hcz170_1 := cz BK121.out 1 (.slice Ao166 x122001_33.length co166); have hcz170_2 := cz BK121.out 2 (.slice Ao167 x122002_47.length co167); have hcz170_3 := cz BK121.out 3 (.slice Ao26 t112.length co26); have hcz170_4 := cz BK121.out 4 (.slice Ao27 t115.length co27); have hcz170_5 := cz BK121.out 5 (.slice Ao168 x122005_61.length co168); have hfz170_0 := blk_frozen BK121.out 0; have hfz170_1 := blk_frozen BK121.out 1; have hfz170_2 := blk_frozen BK121.out 2; have hfz170_3 := blk_frozen BK121.out 3; have hfz170_4 := blk_frozen BK121.out 4; have hfz170_5 := blk_frozen BK121.out 5; have hcz171_0 := cz BK101.out 0 (.string a0_0); have hcz171_1 := cz BK101.out 1 (.slice A0_1 l0_1.length c0_1); have hcz171_2 := cz BK101.out 2 (.slice A0_2 l0_2.length c0_2); have hcz171_3 := cz BK101.out 3 (.slice A0_3 l0_3.length c0_3); have hcz171_4 := cz BK101.out 4 (.slice A0_4 l0_4.length c0_4); have hcz171_5 := cz BK101.out 5 (.slice A0_5 l0_5.length c0_5); have hfz171_0 := blk_frozen BK101.out 0; have hfz171_1 := blk_frozen BK101.out 1; have hfz171_2 := blk_frozen BK101.out 2; have hfz171_3 := blk_frozen BK101.out 3; have hfz171_4 := blk_frozen BK101.out 4; have hfz171_5 := blk_frozen BK101.out 5) | ((with_reducible refine gate_callee (f := 20) rfl ?_); refine goesL_ (some 80) rfl rfl Tryd.func20 (by kernel_rfl) rfl #[.agg #[.string t105, .slice Ao166 x122001_33.length co166, .slice Ao167 x122002_47.length co167, .slice Ao26 t112.length co26, .slice Ao27 t115.length co27, .slice Ao168 x122005_61.length co168], .agg #[.string a0_0, .slice A0_1 l0_1.length c0_1, .slice A0_2 l0_2.length c0_2, .slice A0_3 l0_3.length c0_3, .slice A0_4 l0_4.length c0_4, .slice A0_5 l0_5.length c0_5]] rfl tm ?_; (with_reducible refine (budwoodref10_Same.calls kj61 t105 _ _ x122001_33 _ _ x122002_47 _ _ t112 _ _ t115 _ _ x122005_61 a0_0 _ _ l0_1 _ _ l0_2 _ _ l0_3 _ _ l0_4 _ _ l0_5 false _ ?side1 ?side2 ?side3 ?side4 ?side5 ?side6 ?side7 ?side8 ?side9 ?side10 ?side11 ?side12 ?side13 ?side14 ?side15 ?side16 ?side17 ?side18 ?side19 ?side20 A71.out).mono ?_); (case side1 => exact tr HO_122001.out); (case side2 => exact rl HO_122001.out); (case side3 => exact tr HO_122002.out); (case side4 => exact rl HO_122002.out); (case side5 => exact tr HO_122003.out); (case side6 => exact rl HO_122003.out); (case side7 => exact tr HO_122004.out); (case side8 => exact rl HO_122004.out); (case side9 => exact tr HO_122005.out); (case side10 => exact rl HO_122005.out); (case side11 => exact tc (Kd.C_below HR0_1.out HB.out)); (case side12 => exact HC0_1.out); (case side13 => exact tc (Kd.C_below HR0_2.out HB.out)); (case side14 => exact HC0_2.out); (case side15 => exact tc (Kd.C_below HR0_3.out HB.out)); (case side16 => exact HC0_3.out); (case side17 => exact tc (Kd.C_below HR0_4.out HB.out)); (case side18 => exact HC0_4.out); (case side19 => exact tc (Kd.C_below HR0_5.out HB.out)); (case side20 => exact HC0_5.out); rintro e w172 ⟨rfl, hb⟩; refine ⟨_, rfl, ?_⟩; replace HO_122001 := ra HO_122001.out hb; replace HO_122002 := ra HO_122002.out hb; replace HO_122003 := ra HO_122003.out hb; replace HO_122004 := ra HO_122004.out hb; replace HO_122005 := ra HO_122005.out hb; replace BK101 := ba BK101.out hb; replace BK121 := ba BK121.out hb; replace HB := Aside0.mk (below_step (tg2 HB.out GE101.out GE121.out) hb); (try clear hb); (try clear hb2); (try clear hk); (try clear hi); have hcz173_0 := cz BK121.out 0 (.string t105); have hcz173_1 := cz BK121.out 1 (.slice Ao166 x122001_33.length co166); have hcz173_2 := cz BK121.out 2 (.slice Ao167 x122002_47.length co167); have hcz173_3 := cz BK121.out 3 (.slice Ao26 t112.length co26); have hcz173_4 := cz BK121.out 4 (.slice Ao27 t115.length co27); have hcz173_5 := cz BK121.out 5 (.slice Ao168 x122005_61.length co168); have hfz173_0 := blk_frozen BK121.out 0; have hfz173_1 := blk_frozen BK121.out 1; have hfz173_2 := blk_frozen BK121.out 2; have hfz173_3 := blk_frozen BK121.out 3; have hfz173_4 := blk_frozen BK121.out 4; have hfz173_5 := blk_frozen BK121.out 5) | (go_at_call 18; (with_reducible refine (valid_Check.calls kj61 t105 _ _ x122001_33 _ _ x122002_47 _ _ t112 _ _ t115 _ _ x122005_61 t142 _ ?side11 ?side1 ?side2 ?side3 ?side4 ?side5 ?side6 ?side7 ?side8 ?side9 ?side10 A149.out).mono ?_); (case side1 => exact tr HO_122001.out); (case side2 => exact rl HO_122001.out); (case side3 => exact tr HO_122002.out); (case side4 => exact rl HO_122002.out); (case side5 => exact tr HO_122003.out); (case side6 => exact rl HO_122003.out); (case side7 => exact tr HO_122004.out); (case side8 => exact rl HO_122004.out); (case side9 => exact tr HO_122005.out); (case side10 => exact rl HO_122005.out); (case side11 => first | exact HG.out | exact Glob.below HG.out (tg2 HB.out GE101.out GE121.out)); rintro e w174 ⟨rfl, hb⟩; replace HO_122001 := ra HO_122001.out hb; replace HO_122002 := ra HO_122002.out hb; replace HO_122003 := ra HO_122003.out hb; replace HO_122004 := ra HO_122004.out hb; replace HO_122005 := ra HO_122005.out hb; replace BK101 := ba BK101.out hb; replace BK121 := ba BK121.out hb; replace HB := Aside0.mk (below_step (tg2 HB.out GE101.out GE121.out) hb); (try clear hb); (try clear hb2); (try clear hk); (try clear hi)))
                     go_ret
                     exact ⟨by first | rfl | (simp [errW_none, errW_some] <;> rfl) | (simp [*, errW_none, errW_some] <;> rfl), tg2 HB.out GE101.out GE121.out⟩
                   ·rw [if_neg c148] at H
                    have c148b0 : (t134 == 6) = false := beq_eq_false_iff_ne.mpr c148
                    have c148b1 : (t134 != 6) = true := bne_iff_ne.mpr c148
                    by_cases c175 : t134 = 4
                    ·rw [if_pos c175] at H
                     have c175b0 : (t134 == 4) = true := beq_iff_eq.mpr c175
                     have c175b1 : (t134 != 4) = false := bne_eq_false_iff_eq.mpr c175
                     clear c175
                     replace H := Option.bind_eq_some_iff.mp H
                     obtain ⟨t144, A1760, H⟩ := H
                     replace H : (if t144 = 20 then ((budwoodlaw11_awake.f kj61).bind fun t145 => (some t145)) else (some false)) = some r := H
                     have A176 := Aside0.mk A1760
                     clear A1760
                     by_cases c177 : t144 = 20
                     ·rw [if_pos c177] at H
                      have c177b0 : (t144 == 20) = true := beq_iff_eq.mpr c177
                      have c177b1 : (t144 != 20) = false := bne_eq_false_iff_eq.mpr c177
                      clear c177
                      replace H := Option.bind_eq_some_iff.mp H
                      obtain ⟨t145, A1780, H⟩ := H
                      replace H : (some t145) = some r := H
                      have A178 := Aside0.mk A1780
                      clear A1780
                      obtain rfl := Option.some.inj H
                      have hnb179 := NB121_101.out
                      have hnc179 := NB101_121.out
                      have hcz180_0 := cz BK121.out 0 (.string t105)
                      have hcz180_1 := cz BK121.out 1 (u122001)
                      have hcz180_2 := cz BK121.out 2 (u122002)
                      have hcz180_3 := cz BK121.out 3 (.slice Ao26 t112.length co26)
                      have hcz180_4 := cz BK121.out 4 (.slice Ao27 t115.length co27)
                      have hcz180_5 := cz BK121.out 5 (u122005)
                      have hfz180_0 := blk_frozen BK121.out 0
                      have hfz180_1 := blk_frozen BK121.out 1
                      have hfz180_2 := blk_frozen BK121.out 2
                      have hfz180_3 := blk_frozen BK121.out 3
                      have hfz180_4 := blk_frozen BK121.out 4
                      have hfz180_5 := blk_frozen BK121.out 5
                      obtain ⟨Ao181, co181, eo181⟩ := Kd.R_slice HO_122001.out
                      subst eo181
                      obtain ⟨Ao182, co182, eo182⟩ := Kd.R_slice HO_122002.out
                      subst eo182
                      obtain ⟨Ao183, co183, eo183⟩ := Kd.R_slice HO_122005.out
                      subst eo183
                      go_wp2_with (first | ((with_reducible refine gate_callee (f := 16) rfl ?_); refine goesL_ (some 75) rfl rfl Tryd.func16 (by kernel_rfl) rfl #[.agg #[.string t105, .slice Ao181 x122001_33.length co181, .slice Ao182 x122002_47.length co182, .slice Ao26 t112.length co26, .slice Ao27 t115.length co27, .slice Ao183 x122005_61.length co183]] rfl tm ?_; (with_reducible refine (valid_Module.calls kj61 t105 _ _ x122001_33 _ _ x122002_47 _ _ t112 _ _ t115 _ _ x122005_61 t134 t135 _ ?side11 ?side1 ?side2 ?side3 ?side4 ?side5 ?side6 ?side7 ?side8 ?side9 ?side10 A70.out).mono ?_); (case side1 => exact tr HO_122001.out); (case side2 => exact rl HO_122001.out); (case side3 => exact tr HO_122002.out); (case side4 => exact rl HO_122002.out); (case side5 => exact tr HO_122003.out); (case side6 => exact rl HO_122003.out); (case side7 => exact tr HO_122004.out); (case side8 => exact rl HO_122004.out); (case side9 => exact tr HO_122005.out); (case side10 => exact rl HO_122005.out); (case side11 => first | exact HG.out | exact Glob.below HG.out (tg2 HB.out GE101.out GE121.out)); rintro e w184 ⟨rfl, hb⟩; refine ⟨_, rfl, ?_⟩; replace HO_122001 := ra HO_122001.out hb; replace HO_122002 := ra HO_122002.out hb; replace HO_122003 := ra HO_122003.out hb; replace HO_122004 := ra HO_122004.out hb; replace HO_122005 := ra HO_122005.out hb; replace BK101 := ba BK101.out hb; replace BK121 := ba BK121.out hb; replace HB := Aside0.mk (below_step (tg2 HB.out GE101.out GE121.out) hb); (try clear hb); (try clear hb2); (try clear hk); (try clear hi); have hcz185_0 := cz BK121.out 0 (.string t105); have hcz185_1 := cz BK121.out 1 (.slice Ao181 x122001_33.length co181); have hcz185_2 := cz BK121.out 2 (.slice Ao182 x122002_47.length co182); have hcz185_3 := cz BK121.out 3 (.slice Ao26 t112.length co26); have hcz185_4 := cz BK121.out 4 (.slice Ao27 t115.length co27); have hcz185_5 := cz BK121.out 5 (.slice Ao183 x122005_61.length co183); have hfz185_0 := blk_frozen BK121.out 0; have hfz185_1 := blk_frozen BK121.out 1; have hfz185_2 := blk_frozen BK121.out 2; have hfz185_3 := blk_frozen BK121.out 3; have hfz185_4 := blk_frozen BK121.out 4; have hfz185_5 := blk_frozen BK121.out 5; have hcz186_0 := cz BK101.out 0 (.string a0_0); have hcz186_1 := cz BK101.out 1 (.slice A0_1 l0_1.length c0_1); have hcz186_2 := cz BK101.out 2 (.slice A0_2 l0_2.length c0_2); have hcz186_3 := cz BK101.out 3 (.slice A0_3 l0_3.length c0_3); have hcz186_4 := cz BK101.out 4 (.slice A0_4 l0_4.length c0_4); have hcz186_5 := cz BK101.out 5 (.slice A0_5 l0_5.length c0_5); have hfz186_0 := blk_frozen BK101.out 0; have hfz186_1 := blk_frozen BK101.out 1; have hfz186_2 := blk_frozen BK101.out 2; have hfz186_3 := blk_frozen BK101.out 3; have hfz186_4 := blk_frozen BK101.out 4; have hfz186_5 := blk_frozen BK101.out 5) | ((with_reducible refine gate_callee (f := 20) rfl ?_); refine goesL_ (some 80) rfl rfl Tryd.func20 (by kernel_rfl) rfl #[.agg #[.string t105, .slice Ao181 x122001_33.length co181, .slice Ao182 x122002_47.length co182, .slice Ao26 t112.length co26, .slice Ao27 t115.length co27, .slice Ao183 x122005_61.length co183], .agg #[.string a0_0, .slice A0_1 l0_1.length c0_1, .slice A0_2 l0_2.length c0_2, .slice A0_3 l0_3.length c0_3, .slice A0_4 l0_4.length c0_4, .slice A0_5 l0_5.length c0_5]] rfl tm ?_; (with_reducible refine (budwoodref10_Same.calls kj61 t105 _ _ x122001_33 _ _ x122002_47 _ _ t112 _ _ t115 _ _ x122005_61 a0_0 _ _ l0_1 _ _ l0_2 _ _ l0_3 _ _ l0_4 _ _ l0_5 false _ ?side1 ?side2 ?side3 ?side4 ?side5 ?side6 ?side7 ?side8 ?side9 ?side10 ?side11 ?side12 ?side13 ?side14 ?side15 ?side16 ?side17 ?side18 ?side19 ?side20 A71.out).mono ?_); (case side1 => exact tr HO_122001.out); (case side2 => exact rl HO_122001.out); (case side3 => exact tr HO_122002.out); (case side4 => exact rl HO_122002.out); (case side5 => exact tr HO_122003.out); (case side6 => exact rl HO_122003.out); (case side7 => exact tr HO_122004.out); (case side8 => exact rl HO_122004.out); (case side9 => exact tr HO_122005.out); (case side10 => exact rl HO_122005.out); (case side11 => exact tc (Kd.C_below HR0_1.out HB.out)); (case side12 => exact HC0_1.out); (case side13 => exact tc (Kd.C_below HR0_2.out HB.out)); (case side14 => exact HC0_2.out); (case side15 => exact tc (Kd.C_below HR0_3.out HB.out)); (case side16 => exact HC0_3.out); (case side17 => exact tc (Kd.C_below HR0_4.out HB.out)); (case side18 => exact HC0_4.out); (case side19 => exact tc (Kd.C_below HR0_5.out HB.out)); (case side20 => exact HC0_5.out); rintro e w187 ⟨rfl, hb⟩; refine ⟨_, rfl, ?_⟩; replace HO_122001 := ra HO_122001.out hb; replace HO_122002 := ra HO_122002.out hb; replace HO_122003 := ra HO_122003.out hb; replace HO_122004 := ra HO_122004.out hb; replace HO_122005 := ra HO_122005.out hb; replace BK101 := ba BK101.out hb; replace BK121 := ba BK121.out hb; replace HB := Aside0.mk (below_step (tg2 HB.out GE101.out GE121.out) hb); (try clear hb); (try clear hb2); (try clear hk); (try clear hi); have hcz188_0 := cz BK121.out 0 (.string t105); have hcz188_1 := cz BK121.out 1 (.slice Ao181 x122001_33.length co181); have hcz188_2 := cz BK121.out 2 (.slice Ao182 x122002_47.length co182); have hcz188_3 := cz BK121.out 3 (.slice Ao26 t112.length co26); have hcz188_4 := cz BK121.out 4 (.slice Ao27 t115.length co27); have hcz188_5 := cz BK121.out 5 (.slice Ao183 x122005_61.length co183); have hfz188_0 := blk_frozen BK121.out 0; have hfz188_1 := blk_frozen BK121.out 1; have hfz188_2 := blk_frozen BK121.out 2; have hfz188_3 := blk_frozen BK121.out 3; have hfz188_4 := blk_frozen BK121.out 4; have hfz188_5 := blk_frozen BK121.out 5) | (go_at_call 18; (with_reducible refine (valid_Check.calls kj61 t105 _ _ x122001_33 _ _ x122002_47 _ _ t112 _ _ t115 _ _ x122005_61 t144 _ ?side11 ?side1 ?side2 ?side3 ?side4 ?side5 ?side6 ?side7 ?side8 ?side9 ?side10 A176.out).mono ?_); (case side1 => exact tr HO_122001.out); (case side2 => exact rl HO_122001.out); (case side3 => exact tr HO_122002.out); (case side4 => exact rl HO_122002.out); (case side5 => exact tr HO_122003.out); (case side6 => exact rl HO_122003.out); (case side7 => exact tr HO_122004.out); (case side8 => exact rl HO_122004.out); (case side9 => exact tr HO_122005.out); (case side10 => exact rl HO_122005.out); (case side11 => first | exact HG.out | exact Glob.below HG.out (tg2 HB.out GE101.out GE121.out)); rintro e w189 ⟨rfl, hb⟩; replace HO_122001 := ra HO_122001.out hb; replace HO_122002 := ra HO_122002.out hb; replace HO_122003 := ra HO_122003.out hb; replace HO_122004 := ra HO_122004.out hb; replace HO_122005 := ra HO_122005.out hb; replace BK101 := ba BK101.out hb; replace BK121 := ba BK121.out hb; replace HB := Aside0.mk (below_step (tg2 HB.out GE101.out GE121.out) hb); (try clear hb); (try clear hb2); (try clear hk); (try clear hi)) | (go_at_call 14; (with_reducible refine (budwoodlaw11_awake.calls kj61  t145 _ ?side1 A178.out).mono ?_); (case side1 => first | exact HG.out | exact Glob.below HG.out (tg2 HB.out GE101.out GE121.out)); rintro e w190 ⟨rfl, hb⟩; replace HO_122001 := ra HO_122001.out hb; replace HO_122002 := ra HO_122002.out hb; replace HO_122003 := ra HO_122003.out hb; replace HO_122004 := ra HO_122004.out hb; replace HO_122005 := ra HO_122005.out hb; replace BK101 := ba BK101.out hb; replace BK121 := ba BK121.out hb; replace HB := Aside0.mk (below_step (tg2 HB.out GE101.out GE121.out) hb); (try clear hb); (try clear hb2); (try clear hk); (try clear hi)))
                      go_ret
                      exact ⟨by first | rfl | (simp [errW_none, errW_some] <;> rfl) | (simp [*, errW_none, errW_some] <;> rfl), tg2 HB.out GE101.out GE121.out⟩
                     ·rw [if_neg c177] at H
                      have c177b0 : (t144 == 20) = false := beq_eq_false_iff_ne.mpr c177
                      have c177b1 : (t144 != 20) = true := bne_iff_ne.mpr c177
                      obtain rfl := Option.some.inj H
                      have hnb191 := NB121_101.out
                      have hnc191 := NB101_121.out
                      have hcz192_0 := cz BK121.out 0 (.string t105)
                      have hcz192_1 := cz BK121.out 1 (u122001)
                      have hcz192_2 := cz BK121.out 2 (u122002)
                      have hcz192_3 := cz BK121.out 3 (.slice Ao26 t112.length co26)
                      have hcz192_4 := cz BK121.out 4 (.slice Ao27 t115.length co27)
                      have hcz192_5 := cz BK121.out 5 (u122005)
                      have hfz192_0 := blk_frozen BK121.out 0
                      have hfz192_1 := blk_frozen BK121.out 1
                      have hfz192_2 := blk_frozen BK121.out 2
                      have hfz192_3 := blk_frozen BK121.out 3
                      have hfz192_4 := blk_frozen BK121.out 4
                      have hfz192_5 := blk_frozen BK121.out 5
                      obtain ⟨Ao193, co193, eo193⟩ := Kd.R_slice HO_122001.out
                      subst eo193
                      obtain ⟨Ao194, co194, eo194⟩ := Kd.R_slice HO_122002.out
                      subst eo194
                      obtain ⟨Ao195, co195, eo195⟩ := Kd.R_slice HO_122005.out
                      subst eo195
                      go_wp2_with (first | ((with_reducible refine gate_callee (f := 16) rfl ?_); refine goesL_ (some 75) rfl rfl Tryd.func16 (by kernel_rfl) rfl #[.agg #[.string t105, .slice Ao193 x122001_33.length co193, .slice Ao194 x122002_47.length co194, .slice Ao26 t112.length co26, .slice Ao27 t115.length co27, .slice Ao195 x122005_61.length co195]] rfl tm ?_; (with_reducible refine (valid_Module.calls kj61 t105 _ _ x122001_33 _ _ x122002_47 _ _ t112 _ _ t115 _ _ x122005_61 t134 t135 _ ?side11 ?side1 ?side2 ?side3 ?side4 ?side5 ?side6 ?side7 ?side8 ?side9 ?side10 A70.out).mono ?_); (case side1 => exact tr HO_122001.out); (case side2 => exact rl HO_122001.out); (case side3 => exact tr HO_122002.out); (case side4 => exact rl HO_122002.out); (case side5 => exact tr HO_122003.out); (case side6 => exact rl HO_122003.out); (case side7 => exact tr HO_122004.out); (case side8 => exact rl HO_122004.out); (case side9 => exact tr HO_122005.out); (case side10 => exact rl HO_122005.out); (case side11 => first | exact HG.out | exact Glob.below HG.out (tg2 HB.out GE101.out GE121.out)); rintro e w196 ⟨rfl, hb⟩; refine ⟨_, rfl, ?_⟩; replace HO_122001 := ra HO_122001.out hb; replace HO_122002 := ra HO_122002.out hb; replace HO_122003 := ra HO_122003.out hb; replace HO_122004 := ra HO_122004.out hb; replace HO_122005 := ra HO_122005.out hb; replace BK101 := ba BK101.out hb; replace BK121 := ba BK121.out hb; replace HB := Aside0.mk (below_step (tg2 HB.out GE101.out GE121.out) hb); (try clear hb); (try clear hb2); (try clear hk); (try clear hi); have hcz197_0 := cz BK121.out 0 (.string t105); have hcz197_1 := cz BK121.out 1 (.slice Ao193 x122001_33.length co193); have hcz197_2 := cz BK121.out 2 (.slice Ao194 x122002_47.length co194); have hcz197_3 := cz BK121.out 3 (.slice Ao26 t112.length co26); have hcz197_4 := cz BK121.out 4 (.slice Ao27 t115.length co27); have hcz197_5 := cz BK121.out 5 (.slice Ao195 x122005_61.length co195); have hfz197_0 := blk_frozen BK121.out 0; have hfz197_1 := blk_frozen BK121.out 1; have hfz197_2 := blk_frozen BK121.out 2; have hfz197_3 := blk_frozen BK121.out 3; have hfz197_4 := blk_frozen BK121.out 4; have hfz197_5 := blk_frozen BK121.out 5; have hcz198_0 := cz BK101.out 0 (.string a0_0); have hcz198_1 := cz BK101.out 1 (.slice A0_1 l0_1.length c0_1); have hcz198_2 := cz BK101.out 2 (.slice A0_2 l0_2.length c0_2); have hcz198_3 := cz BK101.out 3 (.slice A0_3 l0_3.length c0_3); have hcz198_4 := cz BK101.out 4 (.slice A0_4 l0_4.length c0_4); have hcz198_5 := cz BK101.out 5 (.slice A0_5 l0_5.length c0_5); have hfz198_0 := blk_frozen BK101.out 0; have hfz198_1 := blk_frozen BK101.out 1; have hfz198_2 := blk_frozen BK101.out 2; have hfz198_3 := blk_frozen BK101.out 3; have hfz198_4 := blk_frozen BK101.out 4; have hfz198_5 := blk_frozen BK101.out 5) | ((with_reducible refine gate_callee (f := 20) rfl ?_); refine goesL_ (some 80) rfl rfl Tryd.func20 (by kernel_rfl) rfl #[.agg #[.string t105, .slice Ao193 x122001_33.length co193, .slice Ao194 x122002_47.length co194, .slice Ao26 t112.length co26, .slice Ao27 t115.length co27, .slice Ao195 x122005_61.length co195], .agg #[.string a0_0, .slice A0_1 l0_1.length c0_1, .slice A0_2 l0_2.length c0_2, .slice A0_3 l0_3.length c0_3, .slice A0_4 l0_4.length c0_4, .slice A0_5 l0_5.length c0_5]] rfl tm ?_; (with_reducible refine (budwoodref10_Same.calls kj61 t105 _ _ x122001_33 _ _ x122002_47 _ _ t112 _ _ t115 _ _ x122005_61 a0_0 _ _ l0_1 _ _ l0_2 _ _ l0_3 _ _ l0_4 _ _ l0_5 false _ ?side1 ?side2 ?side3 ?side4 ?side5 ?side6 ?side7 ?side8 ?side9 ?side10 ?side11 ?side12 ?side13 ?side14 ?side15 ?side16 ?side17 ?side18 ?side19 ?side20 A71.out).mono ?_); (case side1 => exact tr HO_122001.out); (case side2 => exact rl HO_122001.out); (case side3 => exact tr HO_122002.out); (case side4 => exact rl HO_122002.out); (case side5 => exact tr HO_122003.out); (case side6 => exact rl HO_122003.out); (case side7 => exact tr HO_122004.out); (case side8 => exact rl HO_122004.out); (case side9 => exact tr HO_122005.out); (case side10 => exact rl HO_122005.out); (case side11 => exact tc (Kd.C_below HR0_1.out HB.out)); (case side12 => exact HC0_1.out); (case side13 => exact tc (Kd.C_below HR0_2.out HB.out)); (case side14 => exact HC0_2.out); (case side15 => exact tc (Kd.C_below HR0_3.out HB.out)); (case side16 => exact HC0_3.out); (case side17 => exact tc (Kd.C_below HR0_4.out HB.out)); (case side18 => exact HC0_4.out); (case side19 => exact tc (Kd.C_below HR0_5.out HB.out)); (case side20 => exact HC0_5.out); rintro e w199 ⟨rfl, hb⟩; refine ⟨_, rfl, ?_⟩; replace HO_122001 := ra HO_122001.out hb; replace HO_122002 := ra HO_122002.out hb; replace HO_122003 := ra HO_122003.out hb; replace HO_122004 := ra HO_122004.out hb; replace HO_122005 := ra HO_122005.out hb; replace BK101 := ba BK101.out hb; replace BK121 := ba BK121.out hb; replace HB := Aside0.mk (below_step (tg2 HB.out GE101.out GE121.out) hb); (try clear hb); (try clear hb2); (try clear hk); (try clear hi); have hcz200_0 := cz BK121.out 0 (.string t105); have hcz200_1 := cz BK121.out 1 (.slice Ao193 x122001_33.length co193); have hcz200_2 := cz BK121.out 2 (.slice Ao194 x122002_47.length co194); have hcz200_3 := cz BK121.out 3 (.slice Ao26 t112.length co26); have hcz200_4 := cz BK121.out 4 (.slice Ao27 t115.length co27); have hcz200_5 := cz BK121.out 5 (.slice Ao195 x122005_61.length co195); have hfz200_0 := blk_frozen BK121.out 0; have hfz200_1 := blk_frozen BK121.out 1; have hfz200_2 := blk_frozen BK121.out 2; have hfz200_3 := blk_frozen BK121.out 3; have hfz200_4 := blk_frozen BK121.out 4; have hfz200_5 := blk_frozen BK121.out 5) | (go_at_call 18; (with_reducible refine (valid_Check.calls kj61 t105 _ _ x122001_33 _ _ x122002_47 _ _ t112 _ _ t115 _ _ x122005_61 t144 _ ?side11 ?side1 ?side2 ?side3 ?side4 ?side5 ?side6 ?side7 ?side8 ?side9 ?side10 A176.out).mono ?_); (case side1 => exact tr HO_122001.out); (case side2 => exact rl HO_122001.out); (case side3 => exact tr HO_122002.out); (case side4 => exact rl HO_122002.out); (case side5 => exact tr HO_122003.out); (case side6 => exact rl HO_122003.out); (case side7 => exact tr HO_122004.out); (case side8 => exact rl HO_122004.out); (case side9 => exact tr HO_122005.out); (case side10 => exact rl HO_122005.out); (case side11 => first | exact HG.out | exact Glob.below HG.out (tg2 HB.out GE101.out GE121.out)); rintro e w201 ⟨rfl, hb⟩; replace HO_122001 := ra HO_122001.out hb; replace HO_122002 := ra HO_122002.out hb; replace HO_122003 := ra HO_122003.out hb; replace HO_122004 := ra HO_122004.out hb; replace HO_122005 := ra HO_122005.out hb; replace BK101 := ba BK101.out hb; replace BK121 := ba BK121.out hb; replace HB := Aside0.mk (below_step (tg2 HB.out GE101.out GE121.out) hb); (try clear hb); (try clear hb2); (try clear hk); (try clear hi)))
                      go_ret
                      exact ⟨by first | rfl | (simp [errW_none, errW_some] <;> rfl) | (simp [*, errW_none, errW_some] <;> rfl), tg2 HB.out GE101.out GE121.out⟩
                    ·rw [if_neg c175] at H
                     have c175b0 : (t134 == 4) = false := beq_eq_false_iff_ne.mpr c175
                     have c175b1 : (t134 != 4) = true := bne_iff_ne.mpr c175
                     obtain rfl := Option.some.inj H
                     have hnb202 := NB121_101.out
                     have hnc202 := NB101_121.out
                     have hcz203_0 := cz BK121.out 0 (.string t105)
                     have hcz203_1 := cz BK121.out 1 (u122001)
                     have hcz203_2 := cz BK121.out 2 (u122002)
                     have hcz203_3 := cz BK121.out 3 (.slice Ao26 t112.length co26)
                     have hcz203_4 := cz BK121.out 4 (.slice Ao27 t115.length co27)
                     have hcz203_5 := cz BK121.out 5 (u122005)
                     have hfz203_0 := blk_frozen BK121.out 0
                     have hfz203_1 := blk_frozen BK121.out 1
                     have hfz203_2 := blk_frozen BK121.out 2
                     have hfz203_3 := blk_frozen BK121.out 3
                     have hfz203_4 := blk_frozen BK121.out 4
                     have hfz203_5 := blk_frozen BK121.out 5
                     obtain ⟨Ao204, co204, eo204⟩ := Kd.R_slice HO_122001.out
                     subst eo204
                     obtain ⟨Ao205, co205, eo205⟩ := Kd.R_slice HO_122002.out
                     subst eo205
                     obtain ⟨Ao206, co206, eo206⟩ := Kd.R_slice HO_122005.out
                     subst eo206
                     go_wp2_with (first | ((with_reducible refine gate_callee (f := 16) rfl ?_); refine goesL_ (some 75) rfl rfl Tryd.func16 (by kernel_rfl) rfl #[.agg #[.string t105, .slice Ao204 x122001_33.length co204, .slice Ao205 x122002_47.length co205, .slice Ao26 t112.length co26, .slice Ao27 t115.length co27, .slice Ao206 x122005_61.length co206]] rfl tm ?_; (with_reducible refine (valid_Module.calls kj61 t105 _ _ x122001_33 _ _ x122002_47 _ _ t112 _ _ t115 _ _ x122005_61 t134 t135 _ ?side11 ?side1 ?side2 ?side3 ?side4 ?side5 ?side6 ?side7 ?side8 ?side9 ?side10 A70.out).mono ?_); (case side1 => exact tr HO_122001.out); (case side2 => exact rl HO_122001.out); (case side3 => exact tr HO_122002.out); (case side4 => exact rl HO_122002.out); (case side5 => exact tr HO_122003.out); (case side6 => exact rl HO_122003.out); (case side7 => exact tr HO_122004.out); (case side8 => exact rl HO_122004.out); (case side9 => exact tr HO_122005.out); (case side10 => exact rl HO_122005.out); (case side11 => first | exact HG.out | exact Glob.below HG.out (tg2 HB.out GE101.out GE121.out)); rintro e w207 ⟨rfl, hb⟩; refine ⟨_, rfl, ?_⟩; replace HO_122001 := ra HO_122001.out hb; replace HO_122002 := ra HO_122002.out hb; replace HO_122003 := ra HO_122003.out hb; replace HO_122004 := ra HO_122004.out hb; replace HO_122005 := ra HO_122005.out hb; replace BK101 := ba BK101.out hb; replace BK121 := ba BK121.out hb; replace HB := Aside0.mk (below_step (tg2 HB.out GE101.out GE121.out) hb); (try clear hb); (try clear hb2); (try clear hk); (try clear hi); have hcz208_0 := cz BK121.out 0 (.string t105); have hcz208_1 := cz BK121.out 1 (.slice Ao204 x122001_33.length co204); have hcz208_2 := cz BK121.out 2 (.slice Ao205 x122002_47.length co205); have hcz208_3 := cz BK121.out 3 (.slice Ao26 t112.length co26); have hcz208_4 := cz BK121.out 4 (.slice Ao27 t115.length co27); have hcz208_5 := cz BK121.out 5 (.slice Ao206 x122005_61.length co206); have hfz208_0 := blk_frozen BK121.out 0; have hfz208_1 := blk_frozen BK121.out 1; have hfz208_2 := blk_frozen BK121.out 2; have hfz208_3 := blk_frozen BK121.out 3; have hfz208_4 := blk_frozen BK121.out 4; have hfz208_5 := blk_frozen BK121.out 5; have hcz209_0 := cz BK101.out 0 (.string a0_0); have hcz209_1 := cz BK101.out 1 (.slice A0_1 l0_1.length c0_1); have hcz209_2 := cz BK101.out 2 (.slice A0_2 l0_2.length c0_2); have hcz209_3 := cz BK101.out 3 (.slice A0_3 l0_3.length c0_3); have hcz209_4 := cz BK101.out 4 (.slice A0_4 l0_4.length c0_4); have hcz209_5 := cz BK101.out 5 (.slice A0_5 l0_5.length c0_5); have hfz209_0 := blk_frozen BK101.out 0; have hfz209_1 := blk_frozen BK101.out 1; have hfz209_2 := blk_frozen BK101.out 2; have hfz209_3 := blk_frozen BK101.out 3; have hfz209_4 := blk_frozen BK101.out 4; have hfz209_5 := blk_frozen BK101.out 5) | ((with_reducible refine gate_callee (f := 20) rfl ?_); refine goesL_ (some 80) rfl rfl Tryd.func20 (by kernel_rfl) rfl #[.agg #[.string t105, .slice Ao204 x122001_33.length co204, .slice Ao205 x122002_47.length co205, .slice Ao26 t112.length co26, .slice Ao27 t115.length co27, .slice Ao206 x122005_61.length co206], .agg #[.string a0_0, .slice A0_1 l0_1.length c0_1, .slice A0_2 l0_2.length c0_2, .slice A0_3 l0_3.length c0_3, .slice A0_4 l0_4.length c0_4, .slice A0_5 l0_5.length c0_5]] rfl tm ?_; (with_reducible refine (budwoodref10_Same.calls kj61 t105 _ _ x122001_33 _ _ x122002_47 _ _ t112 _ _ t115 _ _ x122005_61 a0_0 _ _ l0_1 _ _ l0_2 _ _ l0_3 _ _ l0_4 _ _ l0_5 false _ ?side1 ?side2 ?side3 ?side4 ?side5 ?side6 ?side7 ?side8 ?side9 ?side10 ?side11 ?side12 ?side13 ?side14 ?side15 ?side16 ?side17 ?side18 ?side19 ?side20 A71.out).mono ?_); (case side1 => exact tr HO_122001.out); (case side2 => exact rl HO_122001.out); (case side3 => exact tr HO_122002.out); (case side4 => exact rl HO_122002.out); (case side5 => exact tr HO_122003.out); (case side6 => exact rl HO_122003.out); (case side7 => exact tr HO_122004.out); (case side8 => exact rl HO_122004.out); (case side9 => exact tr HO_122005.out); (case side10 => exact rl HO_122005.out); (case side11 => exact tc (Kd.C_below HR0_1.out HB.out)); (case side12 => exact HC0_1.out); (case side13 => exact tc (Kd.C_below HR0_2.out HB.out)); (case side14 => exact HC0_2.out); (case side15 => exact tc (Kd.C_below HR0_3.out HB.out)); (case side16 => exact HC0_3.out); (case side17 => exact tc (Kd.C_below HR0_4.out HB.out)); (case side18 => exact HC0_4.out); (case side19 => exact tc (Kd.C_below HR0_5.out HB.out)); (case side20 => exact HC0_5.out); rintro e w210 ⟨rfl, hb⟩; refine ⟨_, rfl, ?_⟩; replace HO_122001 := ra HO_122001.out hb; replace HO_122002 := ra HO_122002.out hb; replace HO_122003 := ra HO_122003.out hb; replace HO_122004 := ra HO_122004.out hb; replace HO_122005 := ra HO_122005.out hb; replace BK101 := ba BK101.out hb; replace BK121 := ba BK121.out hb; replace HB := Aside0.mk (below_step (tg2 HB.out GE101.out GE121.out) hb); (try clear hb); (try clear hb2); (try clear hk); (try clear hi)))
                     go_ret
                     exact ⟨by first | rfl | (simp [errW_none, errW_some] <;> rfl) | (simp [*, errW_none, errW_some] <;> rfl), tg2 HB.out GE101.out GE121.out⟩

end Go.Proofs.YtiphindialkmnaaDoor.X
end
