/- Texts that the proof rests on, part 11. -/
import Derived.Test.YtiphindialkmnaaDoorMOnly10
section
namespace Go.Proofs.YtiphindialkmnaaDoor.X
open Go.RowKit Go.Proofs.YtiphindialkmnaaDoorW.PrintWords Go.Proofs.YtiphindialkmnaaDoorW.PrintLast Go.Proofs.YtiphindialkmnaaDoorW.PrintMore
attribute [local go_sem] max2_int min2_int max_two min_two max_three min_three max_four min_four
set_option linter.unusedVariables false
set_option linter.unusedSimpArgs false

/-! ### budwoodlaw16_LinkOnly: function 10 -/
mutual
def budwoodlaw16_LinkOnly.j0 : Nat → Int → List Int → Bool → ByteArray → List ByteArray → List ByteArray → List Int → List Int → List (S43) → Option (Bool)
 | 0, _, _, _, _, _, _, _, _, _ => none
 | k + 1, x1, x2, x35, x102000, x102001, x102002, x102003, x102004, x102005 => if x35 = true then ((budwoodlaw16_awake.f k).bind fun t104 => (some t104)) else (budwoodlaw16_LinkOnly.l0 k x1 x2 ([] : List Int) 0 x102000 x102001 x102002 x102003 x102004 x102005)
def budwoodlaw16_LinkOnly.l0 : Nat → Int → List Int → List Int → Int → ByteArray → List ByteArray → List ByteArray → List Int → List Int → List (S43) → Option (Bool)
 | 0, _, _, _, _, _, _, _, _, _, _ => none
 | k + 1, x1, x2, x7, x8, x102000, x102001, x102002, x102003, x102004, x102005 => if x8 < (x102002.length : Int) then (if 0 ≤ x8 then (if x8 < (x2.length : Int) then (if x7.length < 35184372088832 then (budwoodlaw16_LinkOnly.l0 k x1 x2 (x7 ++ [(Int.tmod (rd x2 x8) 64) % 4294967296]) (wrap64 (x8 + 1)) x102000 x102001 x102002 x102003 x102004 x102005) else (none)) else (none)) else (none)) else ((layout_Of.f x102000 x102001 x102002 x102003 x102004 x102005).bind fun bt109 => ((layout_At.f k bt109.1 bt109.2 (wrap64 (x1))).bind fun bt111 => (if bt111.2.2 = 0 then ((link_Image.f k x102000 x102001 x102002 x102003 x102004 x102005 bt111.1 bt111.2.1 x7).bind fun bt116 => (if bt116.2 = 0 then ((layout_Of.f x102000 x102001 x102002 x102003 x102004 x102005).bind fun bt120 => ((layout_Words.f bt120.1 bt120.2).bind fun t122 => (budwoodlaw16_LinkOnly.j2 k bt116.1 ((bt116.1.length : Int) != t122) x102000 x102001 x102002 x102003 x102004 x102005))) else (budwoodlaw16_LinkOnly.j2 k bt116.1 true x102000 x102001 x102002 x102003 x102004 x102005))) else ((budwoodlaw16_awake.f k).bind fun t115 => (some t115)))))
def budwoodlaw16_LinkOnly.j2 : Nat → List Int → Bool → ByteArray → List ByteArray → List ByteArray → List Int → List Int → List (S43) → Option (Bool)
 | 0, _, _, _, _, _, _, _, _ => none
 | k + 1, x11, x80, x102000, x102001, x102002, x102003, x102004, x102005 => if x80 = true then (some false) else (budwoodlaw16_LinkOnly.l1 k x11 0 x102000 x102001 x102002 x102003 x102004 x102005)
def budwoodlaw16_LinkOnly.l1 : Nat → List Int → Int → ByteArray → List ByteArray → List ByteArray → List Int → List Int → List (S43) → Option (Bool)
 | 0, _, _, _, _, _, _, _, _ => none
 | k + 1, x11, x13, x102000, x102001, x102002, x102003, x102004, x102005 => if x13 < (x11.length : Int) then ((layout_Spot.f x102000 x102001 x102002 x102003 x102004 x102005 x13).bind fun bt124 => (budwoodlaw16_LinkOnly.l2 k x11 x13 bt124.1 bt124.2.1 bt124.2.2 false 0 x102000 x102001 x102002 x102003 x102004 x102005)) else ((budwoodlaw16_awake.f k).bind fun t123 => (some t123))
def budwoodlaw16_LinkOnly.l2 : Nat → List Int → Int → Bool → Int → Bool → Bool → Int → ByteArray → List ByteArray → List ByteArray → List Int → List Int → List (S43) → Option (Bool)
 | 0, _, _, _, _, _, _, _, _, _, _, _, _, _ => none
 | k + 1, x11, x13, x14, x15, x16, x17, x18, x102000, x102001, x102002, x102003, x102004, x102005 => if x18 < (x102005.length : Int) then (if 0 ≤ x18 then (if ((rd_T43 x102005 x18).f0) = 4 then (if x17 = true then (budwoodlaw16_LinkOnly.l2 k x11 x13 x14 x15 x16 true (wrap64 (x18 + 1)) x102000 x102001 x102002 x102003 x102004 x102005) else (if x16 = true then (if (wrap64 ((rd_T43 x102005 x18).f1)) = x15 then (budwoodlaw16_LinkOnly.l2 k x11 x13 x14 x15 x16 (true != x14) (wrap64 (x18 + 1)) x102000 x102001 x102002 x102003 x102004 x102005) else (budwoodlaw16_LinkOnly.l2 k x11 x13 x14 x15 x16 false (wrap64 (x18 + 1)) x102000 x102001 x102002 x102003 x102004 x102005)) else (budwoodlaw16_LinkOnly.l2 k x11 x13 x14 x15 x16 false (wrap64 (x18 + 1)) x102000 x102001 x102002 x102003 x102004 x102005))) else (if ((rd_T43 x102005 x18).f0) = 5 then (if x17 = true then (budwoodlaw16_LinkOnly.l2 k x11 x13 x14 x15 x16 true (wrap64 (x18 + 1)) x102000 x102001 x102002 x102003 x102004 x102005) else (if x16 = true then (if (wrap64 ((rd_T43 x102005 x18).f1)) = x15 then (budwoodlaw16_LinkOnly.l2 k x11 x13 x14 x15 x16 (true != x14) (wrap64 (x18 + 1)) x102000 x102001 x102002 x102003 x102004 x102005) else (budwoodlaw16_LinkOnly.l2 k x11 x13 x14 x15 x16 false (wrap64 (x18 + 1)) x102000 x102001 x102002 x102003 x102004 x102005)) else (budwoodlaw16_LinkOnly.l2 k x11 x13 x14 x15 x16 false (wrap64 (x18 + 1)) x102000 x102001 x102002 x102003 x102004 x102005))) else (if x17 = true then (budwoodlaw16_LinkOnly.l2 k x11 x13 x14 x15 x16 true (wrap64 (x18 + 1)) x102000 x102001 x102002 x102003 x102004 x102005) else (if x16 = true then (if (wrap64 ((rd_T43 x102005 x18).f1)) = x15 then (budwoodlaw16_LinkOnly.l2 k x11 x13 x14 x15 x16 ((((rd_T43 x102005 x18).f0) == 6) != x14) (wrap64 (x18 + 1)) x102000 x102001 x102002 x102003 x102004 x102005) else (budwoodlaw16_LinkOnly.l2 k x11 x13 x14 x15 x16 false (wrap64 (x18 + 1)) x102000 x102001 x102002 x102003 x102004 x102005)) else (budwoodlaw16_LinkOnly.l2 k x11 x13 x14 x15 x16 false (wrap64 (x18 + 1)) x102000 x102001 x102002 x102003 x102004 x102005))))) else (none)) else (if x17 = true then (budwoodlaw16_LinkOnly.l1 k x11 (wrap64 (x13 + 1)) x102000 x102001 x102002 x102003 x102004 x102005) else (if 0 ≤ x13 then (if x13 < (x11.length : Int) then ((layout_Raw.f x102000 x102001 x102002 x102003 x102004 x102005 x13).bind fun t134 => (if (rd x11 x13) = t134 then (budwoodlaw16_LinkOnly.l1 k x11 (wrap64 (x13 + 1)) x102000 x102001 x102002 x102003 x102004 x102005) else (some false))) else (none)) else (none)))
end
def budwoodlaw16_LinkOnly.f (k : Nat) (a0_0 : ByteArray) (l0_1 : List ByteArray) (l0_2 : List ByteArray) (l0_3 : List Int) (l0_4 : List Int) (l0_5 : List (S43)) (a1 : Int) (l2 : List Int) : Option (Bool) := (budwoodref10_Size.f k a0_0 l0_1 l0_2 l0_3 l0_4 l0_5).bind fun t102 => (if t102 > 2000 then (budwoodlaw16_LinkOnly.j0 k a1 l2 true a0_0 l0_1 l0_2 l0_3 l0_4 l0_5) else ((valid_Check.f k a0_0 l0_1 l0_2 l0_3 l0_4 l0_5).bind fun t103 => (if t103 = 0 then (budwoodlaw16_LinkOnly.j0 k a1 l2 (decide ((l2.length : Int) < (l0_2.length : Int))) a0_0 l0_1 l0_2 l0_3 l0_4 l0_5) else (budwoodlaw16_LinkOnly.j0 k a1 l2 true a0_0 l0_1 l0_2 l0_3 l0_4 l0_5))))
theorem budwoodlaw16_LinkOnly.mono_l : ∀ k, (∀ y0 y1 y2 y3 y4 y5 y6 y7 y8, LeO (budwoodlaw16_LinkOnly.j0 k y0 y1 y2 y3 y4 y5 y6 y7 y8) (budwoodlaw16_LinkOnly.j0 (k + 1) y0 y1 y2 y3 y4 y5 y6 y7 y8)) ∧ (∀ y0 y1 y2 y3 y4 y5 y6 y7 y8 y9, LeO (budwoodlaw16_LinkOnly.l0 k y0 y1 y2 y3 y4 y5 y6 y7 y8 y9) (budwoodlaw16_LinkOnly.l0 (k + 1) y0 y1 y2 y3 y4 y5 y6 y7 y8 y9)) ∧ (∀ y0 y1 y2 y3 y4 y5 y6 y7, LeO (budwoodlaw16_LinkOnly.j2 k y0 y1 y2 y3 y4 y5 y6 y7) (budwoodlaw16_LinkOnly.j2 (k + 1) y0 y1 y2 y3 y4 y5 y6 y7)) ∧ (∀ y0 y1 y2 y3 y4 y5 y6 y7, LeO (budwoodlaw16_LinkOnly.l1 k y0 y1 y2 y3 y4 y5 y6 y7) (budwoodlaw16_LinkOnly.l1 (k + 1) y0 y1 y2 y3 y4 y5 y6 y7)) ∧ (∀ y0 y1 y2 y3 y4 y5 y6 y7 y8 y9 y10 y11 y12, LeO (budwoodlaw16_LinkOnly.l2 k y0 y1 y2 y3 y4 y5 y6 y7 y8 y9 y10 y11 y12) (budwoodlaw16_LinkOnly.l2 (k + 1) y0 y1 y2 y3 y4 y5 y6 y7 y8 y9 y10 y11 y12))
 | 0 => ⟨fun _ _ _ _ _ _ _ _ _ r h => by simp [budwoodlaw16_LinkOnly.j0] at h, fun _ _ _ _ _ _ _ _ _ _ r h => by simp [budwoodlaw16_LinkOnly.l0] at h, fun _ _ _ _ _ _ _ _ r h => by simp [budwoodlaw16_LinkOnly.j2] at h, fun _ _ _ _ _ _ _ _ r h => by simp [budwoodlaw16_LinkOnly.l1] at h, fun _ _ _ _ _ _ _ _ _ _ _ _ _ r h => by simp [budwoodlaw16_LinkOnly.l2] at h⟩
 | k + 1 => by
  obtain ⟨ih0, ih1, ih2, ih3, ih4⟩ := budwoodlaw16_LinkOnly.mono_l k
  refine ⟨?_, ?_, ?_, ?_, ?_⟩
  ·intro y0 y1 y2 y3 y4 y5 y6 y7 y8
   unfold budwoodlaw16_LinkOnly.j0
   repeat' first
   | (with_reducible exact ih0 _ _ _ _ _ _ _ _ _)
   | (with_reducible exact ih1 _ _ _ _ _ _ _ _ _ _)
   | (with_reducible exact ih2 _ _ _ _ _ _ _ _)
   | (with_reducible exact ih3 _ _ _ _ _ _ _ _)
   | (with_reducible exact ih4 _ _ _ _ _ _ _ _ _ _ _ _ _)
   | (with_reducible exact budwoodlaw16_awake.mono _)
   | (with_reducible exact budwoodref10_Size.mono _ _ _ _ _ _ _)
   | (with_reducible exact layout_At.mono _ _ _ _)
   | (with_reducible exact link_Image.mono _ _ _ _ _ _ _ _ _ _)
   | (with_reducible exact valid_Check.mono _ _ _ _ _ _ _)
   | (with_reducible exact LeO.refl _)
   | (with_reducible exact LeO.none _)
   | (with_reducible refine LeO.ite ?_ ?_)
   | (with_reducible refine LeO.bind ?_ (fun _ => ?_))
  ·intro y0 y1 y2 y3 y4 y5 y6 y7 y8 y9
   unfold budwoodlaw16_LinkOnly.l0
   repeat' first
   | (with_reducible exact ih0 _ _ _ _ _ _ _ _ _)
   | (with_reducible exact ih1 _ _ _ _ _ _ _ _ _ _)
   | (with_reducible exact ih2 _ _ _ _ _ _ _ _)
   | (with_reducible exact ih3 _ _ _ _ _ _ _ _)
   | (with_reducible exact ih4 _ _ _ _ _ _ _ _ _ _ _ _ _)
   | (with_reducible exact budwoodlaw16_awake.mono _)
   | (with_reducible exact budwoodref10_Size.mono _ _ _ _ _ _ _)
   | (with_reducible exact layout_At.mono _ _ _ _)
   | (with_reducible exact link_Image.mono _ _ _ _ _ _ _ _ _ _)
   | (with_reducible exact valid_Check.mono _ _ _ _ _ _ _)
   | (with_reducible exact LeO.refl _)
   | (with_reducible exact LeO.none _)
   | (with_reducible refine LeO.ite ?_ ?_)
   | (with_reducible refine LeO.bind ?_ (fun _ => ?_))
  ·intro y0 y1 y2 y3 y4 y5 y6 y7
   unfold budwoodlaw16_LinkOnly.j2
   repeat' first
   | (with_reducible exact ih0 _ _ _ _ _ _ _ _ _)
   | (with_reducible exact ih1 _ _ _ _ _ _ _ _ _ _)
   | (with_reducible exact ih2 _ _ _ _ _ _ _ _)
   | (with_reducible exact ih3 _ _ _ _ _ _ _ _)
   | (with_reducible exact ih4 _ _ _ _ _ _ _ _ _ _ _ _ _)
   | (with_reducible exact budwoodlaw16_awake.mono _)
   | (with_reducible exact budwoodref10_Size.mono _ _ _ _ _ _ _)
   | (with_reducible exact layout_At.mono _ _ _ _)
   | (with_reducible exact link_Image.mono _ _ _ _ _ _ _ _ _ _)
   | (with_reducible exact valid_Check.mono _ _ _ _ _ _ _)
   | (with_reducible exact LeO.refl _)
   | (with_reducible exact LeO.none _)
   | (with_reducible refine LeO.ite ?_ ?_)
   | (with_reducible refine LeO.bind ?_ (fun _ => ?_))
  ·intro y0 y1 y2 y3 y4 y5 y6 y7
   unfold budwoodlaw16_LinkOnly.l1
   repeat' first
   | (with_reducible exact ih0 _ _ _ _ _ _ _ _ _)
   | (with_reducible exact ih1 _ _ _ _ _ _ _ _ _ _)
   | (with_reducible exact ih2 _ _ _ _ _ _ _ _)
   | (with_reducible exact ih3 _ _ _ _ _ _ _ _)
   | (with_reducible exact ih4 _ _ _ _ _ _ _ _ _ _ _ _ _)
   | (with_reducible exact budwoodlaw16_awake.mono _)
   | (with_reducible exact budwoodref10_Size.mono _ _ _ _ _ _ _)
   | (with_reducible exact layout_At.mono _ _ _ _)
   | (with_reducible exact link_Image.mono _ _ _ _ _ _ _ _ _ _)
   | (with_reducible exact valid_Check.mono _ _ _ _ _ _ _)
   | (with_reducible exact LeO.refl _)
   | (with_reducible exact LeO.none _)
   | (with_reducible refine LeO.ite ?_ ?_)
   | (with_reducible refine LeO.bind ?_ (fun _ => ?_))
  ·intro y0 y1 y2 y3 y4 y5 y6 y7 y8 y9 y10 y11 y12
   unfold budwoodlaw16_LinkOnly.l2
   repeat' first
   | (with_reducible exact ih0 _ _ _ _ _ _ _ _ _)
   | (with_reducible exact ih1 _ _ _ _ _ _ _ _ _ _)
   | (with_reducible exact ih2 _ _ _ _ _ _ _ _)
   | (with_reducible exact ih3 _ _ _ _ _ _ _ _)
   | (with_reducible exact ih4 _ _ _ _ _ _ _ _ _ _ _ _ _)
   | (with_reducible exact budwoodlaw16_awake.mono _)
   | (with_reducible exact budwoodref10_Size.mono _ _ _ _ _ _ _)
   | (with_reducible exact layout_At.mono _ _ _ _)
   | (with_reducible exact link_Image.mono _ _ _ _ _ _ _ _ _ _)
   | (with_reducible exact valid_Check.mono _ _ _ _ _ _ _)
   | (with_reducible exact LeO.refl _)
   | (with_reducible exact LeO.none _)
   | (with_reducible refine LeO.ite ?_ ?_)
   | (with_reducible refine LeO.bind ?_ (fun _ => ?_))
theorem budwoodlaw16_LinkOnly.mono : ∀ a0 a1 a2 a3 a4 a5 a6 a7 k, LeO (budwoodlaw16_LinkOnly.f k a0 a1 a2 a3 a4 a5 a6 a7) (budwoodlaw16_LinkOnly.f (k + 1) a0 a1 a2 a3 a4 a5 a6 a7) := by
 intro a0 a1 a2 a3 a4 a5 a6 a7 k
 obtain ⟨ih0, ih1, ih2, ih3, ih4⟩ := budwoodlaw16_LinkOnly.mono_l k
 unfold budwoodlaw16_LinkOnly.f
 repeat' first
   | (with_reducible exact ih0 _ _ _ _ _ _ _ _ _)
   | (with_reducible exact ih1 _ _ _ _ _ _ _ _ _ _)
   | (with_reducible exact ih2 _ _ _ _ _ _ _ _)
   | (with_reducible exact ih3 _ _ _ _ _ _ _ _)
   | (with_reducible exact ih4 _ _ _ _ _ _ _ _ _ _ _ _ _)
   | (with_reducible exact budwoodlaw16_awake.mono _)
   | (with_reducible exact budwoodref10_Size.mono _ _ _ _ _ _ _)
   | (with_reducible exact layout_At.mono _ _ _ _)
   | (with_reducible exact link_Image.mono _ _ _ _ _ _ _ _ _ _)
   | (with_reducible exact valid_Check.mono _ _ _ _ _ _ _)
   | (with_reducible exact LeO.refl _)
   | (with_reducible exact LeO.none _)
   | (with_reducible refine LeO.ite ?_ ?_)
   | (with_reducible refine LeO.bind ?_ (fun _ => ?_))
def budwoodlaw16_LinkOnly.T24 : Bool × List (List Nat × List Nat) := (true, [([], []), ([0], [0]), ([1], [1]), ([2], [2]), ([2], [2]), ([3, 4, 2], [2, 3, 4]), ([5, 2], [2, 5]), ([2], [2]), ([2], [2]), ([7, 8, 2, 2], [2, 7, 8]), ([6, 9, 2], [2, 6, 9]), ([2, 10], [2, 10])])
def budwoodlaw16_LinkOnly.B24 : List Nat := [0, 1, 3, 7, 7, 31, 63, 7, 7, 391, 1023, 2047]
theorem budwoodlaw16_LinkOnly.tab24 : rtab .any (opsOf Tryd.f10 24) = budwoodlaw16_LinkOnly.T24 := by kernel_rfl
theorem budwoodlaw16_LinkOnly.bits24 : waitsOk budwoodlaw16_LinkOnly.T24.2 budwoodlaw16_LinkOnly.B24 = true := by kernel_rfl
set_option maxHeartbeats 8000000 in
set_option maxRecDepth 100000 in
theorem budwoodlaw16_LinkOnly.calls (k : Nat) (a0_0 : ByteArray) (A0_1 : Option Addr) (c0_1 : Nat) (l0_1 : List ByteArray) (A0_2 : Option Addr) (c0_2 : Nat) (l0_2 : List ByteArray) (A0_3 : Option Addr) (c0_3 : Nat) (l0_3 : List Int) (A0_4 : Option Addr) (c0_4 : Nat) (l0_4 : List Int) (A0_5 : Option Addr) (c0_5 : Nat) (l0_5 : List (S43)) (a1 : Int) (A2 : Option Addr) (c2 : Nat) (l2 : List Int) (r : Bool) (w : World) (hG : Glob w) (hr0_1 : Kd.C Kd.string w A0_1 l0_1.length l0_1) (hc0_1 : l0_1.length ≤ c0_1) (hr0_2 : Kd.C Kd.string w A0_2 l0_2.length l0_2) (hc0_2 : l0_2.length ≤ c0_2) (hr0_3 : Kd.C (Kd.int .u32) w A0_3 l0_3.length l0_3) (hc0_3 : l0_3.length ≤ c0_3) (hr0_4 : Kd.C (Kd.int .u32) w A0_4 l0_4.length l0_4) (hc0_4 : l0_4.length ≤ c0_4) (hr0_5 : Kd.C k43 w A0_5 l0_5.length l0_5) (hc0_5 : l0_5.length ≤ c0_5) (hr2 : Kd.C (Kd.int .u16) w A2 l2.length l2) (hc2 : l2.length ≤ c2) (h : budwoodlaw16_LinkOnly.f k a0_0 l0_1 l0_2 l0_3 l0_4 l0_5 a1 l2 = some r) :
  Calls Tryd.prog 10 #[.agg #[.string a0_0, .slice A0_1 l0_1.length c0_1, .slice A0_2 l0_2.length c0_2, .slice A0_3 l0_3.length c0_3, .slice A0_4 l0_4.length c0_4, .slice A0_5 l0_5.length c0_5], .int .u8 a1, .slice A2 l2.length c2] w fun e w' => e = .returned (.bool r) ∧ Below w.heap.size w w' := by
 have hu26 := Tryd.underlying26
 have hu73 := Tryd.underlying73
 have HR0_1 := Aside0.mk hr0_1
 have HC0_1 := Aside0.mk hc0_1
 clear hr0_1 hc0_1
 have HR0_2 := Aside0.mk hr0_2
 have HC0_2 := Aside0.mk hc0_2
 clear hr0_2 hc0_2
 have HR0_3 := Aside0.mk hr0_3
 have HC0_3 := Aside0.mk hc0_3
 clear hr0_3 hc0_3
 have HR0_4 := Aside0.mk hr0_4
 have HC0_4 := Aside0.mk hc0_4
 clear hr0_4 hc0_4
 have HR0_5 := Aside0.mk hr0_5
 have HC0_5 := Aside0.mk hc0_5
 clear hr0_5 hc0_5
 have HR2 := Aside0.mk hr2
 have HC2 := Aside0.mk hc2
 clear hr2 hc2
 have HG := Aside0.mk hG
 clear hG
 have HB := Aside0.mk (Below.refl w.heap.size w)
 have H : ((budwoodref10_Size.f k a0_0 l0_1 l0_2 l0_3 l0_4 l0_5).bind fun t102 => (if t102 > 2000 then (budwoodlaw16_LinkOnly.j0 k a1 l2 true a0_0 l0_1 l0_2 l0_3 l0_4 l0_5) else ((valid_Check.f k a0_0 l0_1 l0_2 l0_3 l0_4 l0_5).bind fun t103 => (if t103 = 0 then (budwoodlaw16_LinkOnly.j0 k a1 l2 (decide ((l2.length : Int) < (l0_2.length : Int))) a0_0 l0_1 l0_2 l0_3 l0_4 l0_5) else (budwoodlaw16_LinkOnly.j0 k a1 l2 true a0_0 l0_1 l0_2 l0_3 l0_4 l0_5))))) = some r := h
 clear h
 have HC4 := Aside0.mk H
 clear H
 go_enter Tryd.func10, Tryd.ntmps10
 go_upto_region 1 with (first | ((with_reducible refine gate_dst (N := 3) rfl ?_); (try (refine gate_guard (by rfl) ?_; dsimp only)); refine box_event ?hg (N := 3) ?hd (cs := #[.string a0_0, .slice A0_1 l0_1.length c0_1, .slice A0_2 l0_2.length c0_2, .slice A0_3 l0_3.length c0_3, .slice A0_4 l0_4.length c0_4, .slice A0_5 l0_5.length c0_5]) (t := 26) ?hr ?_; (case hd => rfl); (case hg => rfl); (case hr => first | (go_simp; done) | (go_simp; rfl)); intro gb101 hg w5 hbox hb; have n0_ := Aside0.mk (below_step (tg HB.out) hb); have n1_ := Aside0.mk (hbox); have n2_ := Aside0.mk ((by rw [hg]; exact (below_size (tg HB.out)) : w.heap.size ≤ gb101)); have n3_ := Aside0.mk ((by rw [hg]; exact (below_size (tg HB.out)) : w.heap.size ≤ gb101)); clear HB; have HB := n0_; have BK101 := n1_; have GW101 := n2_; have GE101 := n3_; clear n0_ n1_ n2_ n3_; clear hb hbox hg))
 (try simp only [Act.put, List.setIfInBounds_toArray, List.set_cons_zero, List.set_cons_succ])
 go_cut [35] (fun v35 wc => ∃ (kq : Nat) (x35_3 : Bool), v35 = .bool x35_3 ∧ Aside0 (budwoodlaw16_LinkOnly.j0 kq a1 l2 x35_3 a0_0 l0_1 l0_2 l0_3 l0_4 l0_5 = some r) ∧ Aside0 (kq ≤ k) ∧ Aside0 (wc.heap[gb101]? = some (.cells #[.string a0_0, (.slice A0_1 l0_1.length c0_1), (.slice A0_2 l0_2.length c0_2), (.slice A0_3 l0_3.length c0_3), (.slice A0_4 l0_4.length c0_4), (.slice A0_5 l0_5.length c0_5)] 26 (0, 0))) ∧ Aside0 (Below w.heap.size w wc))
 case first =>
  have H := HC4.out
  clear HC4
  replace H := Option.bind_eq_some_iff.mp H
  obtain ⟨t102, A60, H⟩ := H
  replace H : (if t102 > 2000 then (budwoodlaw16_LinkOnly.j0 k a1 l2 true a0_0 l0_1 l0_2 l0_3 l0_4 l0_5) else ((valid_Check.f k a0_0 l0_1 l0_2 l0_3 l0_4 l0_5).bind fun t103 => (if t103 = 0 then (budwoodlaw16_LinkOnly.j0 k a1 l2 (decide ((l2.length : Int) < (l0_2.length : Int))) a0_0 l0_1 l0_2 l0_3 l0_4 l0_5) else (budwoodlaw16_LinkOnly.j0 k a1 l2 true a0_0 l0_1 l0_2 l0_3 l0_4 l0_5)))) = some r := H
  have A6 := Aside0.mk A60
  clear A60
  by_cases c7 : t102 > 2000
  ·rw [if_pos c7] at H
   have c7b0 : decide (2000 < t102) = true := decide_eq_true c7
   clear c7
   (first | rw [c7b0] | (simp only [i64_w, i32_w]; rw [c7b0]) | skip)
   have H' := Aside0.mk H
   clear H
   obtain ⟨hcz8_0, hcz8_1, hcz8_2, hcz8_3, hcz8_4, hcz8_5, hfz8_0, hfz8_1, hfz8_2, hfz8_3, hfz8_4, hfz8_5⟩ := cq6 BK101.out
   go_wp2_with (first | ((with_reducible refine gate_callee (f := 13) rfl ?_); refine goesL_ (some 21) rfl rfl Tryd.func13 (by kernel_rfl) rfl #[.agg #[.string a0_0, .slice A0_1 l0_1.length c0_1, .slice A0_2 l0_2.length c0_2, .slice A0_3 l0_3.length c0_3, .slice A0_4 l0_4.length c0_4, .slice A0_5 l0_5.length c0_5]] rfl tm ?_; (with_reducible refine (budwoodref10_Size.calls k a0_0 _ _ l0_1 _ _ l0_2 _ _ l0_3 _ _ l0_4 _ _ l0_5 t102 _ (tc (Kd.C_below HR0_1.out HB.out)) HC0_1.out (tc (Kd.C_below HR0_2.out HB.out)) HC0_2.out (tc (Kd.C_below HR0_3.out HB.out)) HC0_3.out (tc (Kd.C_below HR0_4.out HB.out)) HC0_4.out (tc (Kd.C_below HR0_5.out HB.out)) HC0_5.out A6.out).mono ?_); rintro e w9 ⟨rfl, hb⟩; refine ⟨_, rfl, ?_⟩; replace BK101 := ba BK101.out hb; replace HB := Aside0.mk (below_step (tg1 HB.out GE101.out) hb); (try clear hb)))
   go_meet
   case rel => exact ⟨_, (true), ts, H', ⟨tn⟩, ⟨tb BK101.out⟩, ⟨tg1 HB.out GE101.out⟩⟩
  ·rw [if_neg c7] at H
   have c7b0 : decide (2000 < t102) = false := decide_eq_false c7
   clear c7
   (first | rw [c7b0] | (simp only [i64_w, i32_w]; rw [c7b0]) | skip)
   replace H := Option.bind_eq_some_iff.mp H
   obtain ⟨t103, A100, H⟩ := H
   replace H : (if t103 = 0 then (budwoodlaw16_LinkOnly.j0 k a1 l2 (decide ((l2.length : Int) < (l0_2.length : Int))) a0_0 l0_1 l0_2 l0_3 l0_4 l0_5) else (budwoodlaw16_LinkOnly.j0 k a1 l2 true a0_0 l0_1 l0_2 l0_3 l0_4 l0_5)) = some r := H
   have A10 := Aside0.mk A100
   clear A100
   by_cases c11 : t103 = 0
   ·rw [if_pos c11] at H
    have c11b0 : (t103 == 0) = true := beq_iff_eq.mpr c11
    have c11b1 : (t103 != 0) = false := bne_eq_false_iff_eq.mpr c11
    clear c11
    have H' := Aside0.mk H
    clear H
    obtain ⟨hcz12_0, hcz12_1, hcz12_2, hcz12_3, hcz12_4, hcz12_5, hfz12_0, hfz12_1, hfz12_2, hfz12_3, hfz12_4, hfz12_5⟩ := cq6 BK101.out
    go_wp2_with (first | ((with_reducible refine gate_callee (f := 13) rfl ?_); refine goesL_ (some 21) rfl rfl Tryd.func13 (by kernel_rfl) rfl #[.agg #[.string a0_0, .slice A0_1 l0_1.length c0_1, .slice A0_2 l0_2.length c0_2, .slice A0_3 l0_3.length c0_3, .slice A0_4 l0_4.length c0_4, .slice A0_5 l0_5.length c0_5]] rfl tm ?_; (with_reducible refine (budwoodref10_Size.calls k a0_0 _ _ l0_1 _ _ l0_2 _ _ l0_3 _ _ l0_4 _ _ l0_5 t102 _ (tc (Kd.C_below HR0_1.out HB.out)) HC0_1.out (tc (Kd.C_below HR0_2.out HB.out)) HC0_2.out (tc (Kd.C_below HR0_3.out HB.out)) HC0_3.out (tc (Kd.C_below HR0_4.out HB.out)) HC0_4.out (tc (Kd.C_below HR0_5.out HB.out)) HC0_5.out A6.out).mono ?_); rintro e w13 ⟨rfl, hb⟩; refine ⟨_, rfl, ?_⟩; replace BK101 := ba BK101.out hb; replace HB := Aside0.mk (below_step (tg1 HB.out GE101.out) hb); (try clear hb); obtain ⟨hcz14_0, hcz14_1, hcz14_2, hcz14_3, hcz14_4, hcz14_5, hfz14_0, hfz14_1, hfz14_2, hfz14_3, hfz14_4, hfz14_5⟩ := cq6 BK101.out) | (go_at_call 18; (with_reducible refine (valid_Check.calls k a0_0 _ _ l0_1 _ _ l0_2 _ _ l0_3 _ _ l0_4 _ _ l0_5 t103 _ (by first | exact HG.out | exact Glob.below HG.out (tg1 HB.out GE101.out)) (tc (Kd.C_below HR0_1.out HB.out)) HC0_1.out (tc (Kd.C_below HR0_2.out HB.out)) HC0_2.out (tc (Kd.C_below HR0_3.out HB.out)) HC0_3.out (tc (Kd.C_below HR0_4.out HB.out)) HC0_4.out (tc (Kd.C_below HR0_5.out HB.out)) HC0_5.out A10.out).mono ?_); rintro e w15 ⟨rfl, hb⟩; replace BK101 := ba BK101.out hb; replace HB := Aside0.mk (below_step (tg1 HB.out GE101.out) hb); (try clear hb); obtain ⟨hcz16_0, hcz16_1, hcz16_2, hcz16_3, hcz16_4, hcz16_5, hfz16_0, hfz16_1, hfz16_2, hfz16_3, hfz16_4, hfz16_5⟩ := cq6 BK101.out))
    go_meet
    case rel => exact ⟨_, (decide ((l2.length : Int) < (l0_2.length : Int))), ts, H', ⟨tn⟩, ⟨tb BK101.out⟩, ⟨tg1 HB.out GE101.out⟩⟩
   ·rw [if_neg c11] at H
    have c11b0 : (t103 == 0) = false := beq_eq_false_iff_ne.mpr c11
    have c11b1 : (t103 != 0) = true := bne_iff_ne.mpr c11
    have H' := Aside0.mk H
    clear H
    obtain ⟨hcz17_0, hcz17_1, hcz17_2, hcz17_3, hcz17_4, hcz17_5, hfz17_0, hfz17_1, hfz17_2, hfz17_3, hfz17_4, hfz17_5⟩ := cq6 BK101.out
    go_wp2_with (first | ((with_reducible refine gate_callee (f := 13) rfl ?_); refine goesL_ (some 21) rfl rfl Tryd.func13 (by kernel_rfl) rfl #[.agg #[.string a0_0, .slice A0_1 l0_1.length c0_1, .slice A0_2 l0_2.length c0_2, .slice A0_3 l0_3.length c0_3, .slice A0_4 l0_4.length c0_4, .slice A0_5 l0_5.length c0_5]] rfl tm ?_; (with_reducible refine (budwoodref10_Size.calls k a0_0 _ _ l0_1 _ _ l0_2 _ _ l0_3 _ _ l0_4 _ _ l0_5 t102 _ (tc (Kd.C_below HR0_1.out HB.out)) HC0_1.out (tc (Kd.C_below HR0_2.out HB.out)) HC0_2.out (tc (Kd.C_below HR0_3.out HB.out)) HC0_3.out (tc (Kd.C_below HR0_4.out HB.out)) HC0_4.out (tc (Kd.C_below HR0_5.out HB.out)) HC0_5.out A6.out).mono ?_); rintro e w18 ⟨rfl, hb⟩; refine ⟨_, rfl, ?_⟩; replace BK101 := ba BK101.out hb; replace HB := Aside0.mk (below_step (tg1 HB.out GE101.out) hb); (try clear hb); obtain ⟨hcz19_0, hcz19_1, hcz19_2, hcz19_3, hcz19_4, hcz19_5, hfz19_0, hfz19_1, hfz19_2, hfz19_3, hfz19_4, hfz19_5⟩ := cq6 BK101.out) | (go_at_call 18; (with_reducible refine (valid_Check.calls k a0_0 _ _ l0_1 _ _ l0_2 _ _ l0_3 _ _ l0_4 _ _ l0_5 t103 _ (by first | exact HG.out | exact Glob.below HG.out (tg1 HB.out GE101.out)) (tc (Kd.C_below HR0_1.out HB.out)) HC0_1.out (tc (Kd.C_below HR0_2.out HB.out)) HC0_2.out (tc (Kd.C_below HR0_3.out HB.out)) HC0_3.out (tc (Kd.C_below HR0_4.out HB.out)) HC0_4.out (tc (Kd.C_below HR0_5.out HB.out)) HC0_5.out A10.out).mono ?_); rintro e w20 ⟨rfl, hb⟩; replace BK101 := ba BK101.out hb; replace HB := Aside0.mk (below_step (tg1 HB.out GE101.out) hb); (try clear hb)))
    go_meet
    case rel => exact ⟨_, (true), ts, H', ⟨tn⟩, ⟨tb BK101.out⟩, ⟨tg1 HB.out GE101.out⟩⟩
 case rest =>
  clear HC4
  try clear c1
  try clear c2
  try clear p2
  try clear c7
  try clear c7b0
  try clear c10
  try clear c11
  try clear c11b0
  try clear c11b1
  try clear c13
  try clear hcz12_0 hcz12_1 hcz12_2 hcz12_3 hcz12_4 hcz12_5 hfz12_0 hfz12_1 hfz12_2 hfz12_3 hfz12_4 hfz12_5
  try clear hcz14_0 hcz14_1 hcz14_2 hcz14_3 hcz14_4 hcz14_5 hfz14_0 hfz14_1 hfz14_2 hfz14_3 hfz14_4 hfz14_5
  try clear hcz16_0 hcz16_1 hcz16_2 hcz16_3 hcz16_4 hcz16_5 hfz16_0 hfz16_1 hfz16_2 hfz16_3 hfz16_4 hfz16_5
  try clear hcz17_0 hcz17_1 hcz17_2 hcz17_3 hcz17_4 hcz17_5 hfz17_0 hfz17_1 hfz17_2 hfz17_3 hfz17_4 hfz17_5
  try clear hcz19_0 hcz19_1 hcz19_2 hcz19_3 hcz19_4 hcz19_5 hfz19_0 hfz19_1 hfz19_2 hfz19_3 hfz19_4 hfz19_5
  try clear hcz8_0 hcz8_1 hcz8_2 hcz8_3 hcz8_4 hcz8_5 hfz8_0 hfz8_1 hfz8_2 hfz8_3 hfz8_4 hfz8_5
  obtain ⟨kq, x35_3, rfl, HA, HJ3, BK101, HB⟩ := hcut
  cases kq with
  | zero => exact absurd HA.out (by simp [budwoodlaw16_LinkOnly.j0])
  | succ kj3 =>
   have H := HA.out
   clear HA
   simp only [budwoodlaw16_LinkOnly.j0] at H
   by_cases c21 : x35_3 = true
   ·subst c21
    have H1 : ((budwoodlaw16_awake.f kj3).bind fun t104 => (some t104)) = some r := by rw [if_pos rfl] at H; exact H
    clear H
    have H := H1
    clear H1
    replace H := Option.bind_eq_some_iff.mp H
    obtain ⟨t104, A220, H⟩ := H
    replace H : (some t104) = some r := H
    have A22 := Aside0.mk A220
    clear A220
    obtain rfl := Option.some.inj H
    go_wp2_with (first | ((with_reducible refine gate_callee (f := 22) rfl ?_); refine goesL_ (some 36) rfl rfl Tryd.func22 (by kernel_rfl) rfl #[] rfl tm ?_; (with_reducible refine (budwoodlaw16_awake.calls kj3  t104 _ A22.out).mono ?_); rintro e w23 ⟨rfl, hb⟩; refine ⟨_, rfl, ?_⟩; replace BK101 := ba BK101.out hb; replace HB := Aside0.mk (below_step (tg1 HB.out GE101.out) hb); (try clear hb)))
    go_ret
    exact ⟨te, tg1 HB.out GE101.out⟩
   ·replace c21 := Bool.eq_false_iff.mpr c21
    subst c21
    have H1 : (budwoodlaw16_LinkOnly.l0 kj3 a1 l2 ([] : List Int) 0 a0_0 l0_1 l0_2 l0_3 l0_4 l0_5) = some r := by rw [if_neg (show ¬ (false = true) by decide)] at H; exact H
    clear H
    have H := H1
    clear H1
    have H' := Aside0.mk H
    clear H
    go_wp2
    go_loopg [7, 8] kj3 (fun kq v7 v8 w' => ∃ (x7_2 : List Int) (x8_2 : Int), v8 = .int .i64 x8_2 ∧ Aside0 (budwoodlaw16_LinkOnly.l0 kq a1 l2 x7_2 x8_2 a0_0 l0_1 l0_2 l0_3 l0_4 l0_5 = some r) ∧ Aside0 (kq ≤ kj3) ∧ Aside0 (Kd.R (Kd.int .u32) 44 w' w.heap.size (fun _ => True) v7 x7_2) ∧ Aside0 (w'.heap[gb101]? = some (.cells #[.string a0_0, (.slice A0_1 l0_1.length c0_1), (.slice A0_2 l0_2.length c0_2), (.slice A0_3 l0_3.length c0_3), (.slice A0_4 l0_4.length c0_4), (.slice A0_5 l0_5.length c0_5)] 26 (0, 0))) ∧ Aside0 (Below w.heap.size w w'))
    case atStart => exact ⟨(([] : List Int)), (0), ts, H', ⟨Nat.le_refl _⟩, ⟨by first | exact Kd.R_nil _ _ _ _ _ | exact Kd.N_nil _ _ _ _ _ | exact Kd.V_nil _ _ _ _ _ | exact Kd.Q_nil _ _ _ _ _ | exact Kd.S_nil _ _ _ _ _⟩, ⟨tb BK101.out⟩, ⟨tg1 HB.out GE101.out⟩⟩
    case round =>
     clear H'
     try clear c1
     try clear c2
     try clear p2
     try clear c7
     try clear c7b0
     try clear c10
     try clear c11
     try clear c11b0
     try clear c11b1
     try clear c13
     try clear c21
     try clear c22
     try clear hcz12_0 hcz12_1 hcz12_2 hcz12_3 hcz12_4 hcz12_5 hfz12_0 hfz12_1 hfz12_2 hfz12_3 hfz12_4 hfz12_5
     try clear hcz14_0 hcz14_1 hcz14_2 hcz14_3 hcz14_4 hcz14_5 hfz14_0 hfz14_1 hfz14_2 hfz14_3 hfz14_4 hfz14_5
     try clear hcz16_0 hcz16_1 hcz16_2 hcz16_3 hcz16_4 hcz16_5 hfz16_0 hfz16_1 hfz16_2 hfz16_3 hfz16_4 hfz16_5
     try clear hcz17_0 hcz17_1 hcz17_2 hcz17_3 hcz17_4 hcz17_5 hfz17_0 hfz17_1 hfz17_2 hfz17_3 hfz17_4 hfz17_5
     try clear hcz19_0 hcz19_1 hcz19_2 hcz19_3 hcz19_4 hcz19_5 hfz19_0 hfz19_1 hfz19_2 hfz19_3 hfz19_4 hfz19_5
     try clear hcz8_0 hcz8_1 hcz8_2 hcz8_3 hcz8_4 hcz8_5 hfz8_0 hfz8_1 hfz8_2 hfz8_3 hfz8_4 hfz8_5
     try clear p2
     obtain ⟨x7_2, x8_2, rfl, HA, HK2, HO_7, BK101, HB⟩ := hrel
     cases gk with
     | zero => exact absurd HA.out (by simp [budwoodlaw16_LinkOnly.l0])
     | succ k2 =>
      have H := HA.out
      clear HA
      simp only [budwoodlaw16_LinkOnly.l0] at H
      by_cases c24 : x8_2 < (l0_2.length : Int)
      ·rw [if_pos c24] at H
       have c24b0 : decide (x8_2 < (l0_2.length : Int)) = true := decide_eq_true c24
       clear c24
       by_cases c25 : 0 ≤ x8_2
       ·rw [if_pos c25] at H
        have c25b0 : decide (0 ≤ x8_2) = true := decide_eq_true c25
        clear c25
        by_cases c26 : x8_2 < (l2.length : Int)
        ·rw [if_pos c26] at H
         have c26b0 : decide (x8_2 < (l2.length : Int)) = true := decide_eq_true c26
         clear c26
         by_cases c27 : x7_2.length < 35184372088832
         ·rw [if_pos c27] at H
          have LMc27 := Aside0.mk c27
          clear c27
          obtain ⟨y106, hy106⟩ : ∃ y_ : List Int, y_ = (x7_2 ++ [(Int.tmod (rd l2 x8_2) 64) % 4294967296]) := ⟨_, rfl⟩
          replace H : (budwoodlaw16_LinkOnly.l0 k2 a1 l2 y106 (wrap64 (x8_2 + 1)) a0_0 l0_1 l0_2 l0_3 l0_4 l0_5) = some r := by first | (rw [hy106]; with_reducible exact H) | (have H2_ := (Option.bind_some _ _).symm.trans H; rw [hy106]; with_reducible exact H2_) | (have H2_ := (Option.bind_some _ _).symm.trans H; with_reducible exact H2_) | with_reducible exact H | (rw [hy106]; exact H) | exact H
          have Ny106 := Aside0.mk hy106
          clear hy106
          have H' := Aside0.mk H
          clear H
          obtain ⟨hcz28_0, hcz28_1, hcz28_2, hcz28_3, hcz28_4, hcz28_5, hfz28_0, hfz28_1, hfz28_2, hfz28_3, hfz28_4, hfz28_5⟩ := cq6 BK101.out
          have p105 : 0 ≤ (x8_2 : Int) := td
          have q105 : x8_2 < (l2.length : Int) := td
          obtain ⟨ad105, e105, hx105_0⟩ := Kd.at_int HR2.out x8_2 p105 q105
          cases e105
          replace hx105_0 := (HB.out.cell (World.block_lt_of_cell? w _ hx105_0)).trans hx105_0
          replace p105 := eq_true p105
          replace q105 := eq_true q105
          go_wp2_with (first | ((with_reducible refine gate_builtin (b := .append) (xs := #[.tmp 44, .tmp 51]) rfl ?_); (try (refine gate_guard (by rfl) ?_; dsimp only)); at_builtin; refine Kd.R_append (Kd.int .u32) (w0 := w) w.heap.size rfl (.tmp 44) (.tmp 51) 23 44 (.int .u32 0) 4 rfl Tryd.underlying23 info44 rfl (by decide) (by omega) u7 x7_2 ((Int.tmod (rd l2 x8_2) 64) % 4294967296) [.int .u32 ((Int.tmod (rd l2 x8_2) 64) % 4294967296)] (fun _ => True) (fun _ => False) rfl rfl ?aP (fun _ hk => hk.elim) ?aF ?aO ?aB ?aS ?aL ?_; (case aP => exact rfl); (case aB => exact (tg1 HB.out GE101.out)); (case aF => exact (fun _ _ => trivial)); (case aO => exact (tk HO_7.out)); (case aS => exact (below_size (tg1 HB.out GE101.out))); (case aL => have := LMc27.out; omega); intro v107 w29 ho hb hg hat; rw [← Ny106.out] at ho; have n0_ := Aside0.mk (blk_grown (g := gb101) (o := .cells #[.string a0_0, .slice A0_1 l0_1.length c0_1, .slice A0_2 l0_2.length c0_2, .slice A0_3 l0_3.length c0_3, .slice A0_4 l0_4.length c0_4, .slice A0_5 l0_5.length c0_5] 26 (0, 0)) (tb BK101.out) hg (Kd.R_ne HO_7.out BK101.out (by decide))); have n1_ := Aside0.mk (hb); have n2_ := Aside0.mk (ho); clear BK101; clear HB; clear HO_7; have BK101 := n0_; have HB := n1_; have HO108 := n2_; clear n0_ n1_ n2_; clear ho hb hg hat))
          go_roundg k2
          case measure => have := HJ3.out; have := HK2.out; omega
          case rel => exact ⟨(y106), (wrap64 (x8_2 + 1)), ts, H', ⟨by have := HJ3.out; have := HK2.out; omega⟩, ⟨tk HO108.out⟩, ⟨tb BK101.out⟩, ⟨tg1 HB.out GE101.out⟩⟩
         ·rw [if_neg c27] at H
          exact absurd H (by simp)
        ·rw [if_neg c26] at H
         exact absurd H (by simp)
       ·rw [if_neg c25] at H
        exact absurd H (by simp)
      ·rw [if_neg c24] at H
       have c24b0 : decide (x8_2 < (l0_2.length : Int)) = false := decide_eq_false c24
       clear c24
       replace H := Option.bind_eq_some_iff.mp H
       obtain ⟨⟨t109, t110⟩, A300, H⟩ := H
       replace H : ((layout_At.f k2 t109 t110 (wrap64 (a1))).bind fun bt111 => (if bt111.2.2 = 0 then ((link_Image.f k2 a0_0 l0_1 l0_2 l0_3 l0_4 l0_5 bt111.1 bt111.2.1 x7_2).bind fun bt116 => (if bt116.2 = 0 then ((layout_Of.f a0_0 l0_1 l0_2 l0_3 l0_4 l0_5).bind fun bt120 => ((layout_Words.f bt120.1 bt120.2).bind fun t122 => (budwoodlaw16_LinkOnly.j2 k2 bt116.1 ((bt116.1.length : Int) != t122) a0_0 l0_1 l0_2 l0_3 l0_4 l0_5))) else (budwoodlaw16_LinkOnly.j2 k2 bt116.1 true a0_0 l0_1 l0_2 l0_3 l0_4 l0_5))) else ((budwoodlaw16_awake.f k2).bind fun t115 => (some t115)))) = some r := H
       have A30 := Aside0.mk A300
       clear A300
       replace H := Option.bind_eq_some_iff.mp H
       obtain ⟨⟨t111, t112, t113⟩, A310, H⟩ := H
       replace H : (if t113 = 0 then ((link_Image.f k2 a0_0 l0_1 l0_2 l0_3 l0_4 l0_5 t111 t112 x7_2).bind fun bt116 => (if bt116.2 = 0 then ((layout_Of.f a0_0 l0_1 l0_2 l0_3 l0_4 l0_5).bind fun bt120 => ((layout_Words.f bt120.1 bt120.2).bind fun t122 => (budwoodlaw16_LinkOnly.j2 k2 bt116.1 ((bt116.1.length : Int) != t122) a0_0 l0_1 l0_2 l0_3 l0_4 l0_5))) else (budwoodlaw16_LinkOnly.j2 k2 bt116.1 true a0_0 l0_1 l0_2 l0_3 l0_4 l0_5))) else ((budwoodlaw16_awake.f k2).bind fun t115 => (some t115))) = some r := H
       have A31 := Aside0.mk A310
       clear A310
       by_cases c32 : t113 = 0
       ·rw [if_pos c32] at H
        have c32b0 : (t113 == 0) = true := beq_iff_eq.mpr c32
        have c32b1 : (t113 != 0) = false := bne_eq_false_iff_eq.mpr c32
        clear c32
        replace H := Option.bind_eq_some_iff.mp H
        obtain ⟨⟨t116, t119⟩, A330, H⟩ := H
        replace H : (if t119 = 0 then ((layout_Of.f a0_0 l0_1 l0_2 l0_3 l0_4 l0_5).bind fun bt120 => ((layout_Words.f bt120.1 bt120.2).bind fun t122 => (budwoodlaw16_LinkOnly.j2 k2 t116 ((t116.length : Int) != t122) a0_0 l0_1 l0_2 l0_3 l0_4 l0_5))) else (budwoodlaw16_LinkOnly.j2 k2 t116 true a0_0 l0_1 l0_2 l0_3 l0_4 l0_5)) = some r := H
        have A33 := Aside0.mk A330
        clear A330
        have HC34 := Aside0.mk H
        clear H
        obtain ⟨hcz35_0, hcz35_1, hcz35_2, hcz35_3, hcz35_4, hcz35_5, hfz35_0, hfz35_1, hfz35_2, hfz35_3, hfz35_4, hfz35_5⟩ := cq6 BK101.out
        go_upto_region 12 with (first | ((with_reducible refine gate_callee (f := 32) rfl ?_); refine goesL_ (some 55) rfl rfl Tryd.func32 (by kernel_rfl) rfl #[.agg #[.string a0_0, .slice A0_1 l0_1.length c0_1, .slice A0_2 l0_2.length c0_2, .slice A0_3 l0_3.length c0_3, .slice A0_4 l0_4.length c0_4, .slice A0_5 l0_5.length c0_5]] rfl tm ?_; (with_reducible refine (layout_Of.calls a0_0 _ _ l0_1 _ _ l0_2 _ _ l0_3 _ _ l0_4 _ _ l0_5 t109 t110 _ (tc (Kd.C_below HR0_1.out HB.out)) HC0_1.out (tc (Kd.C_below HR0_2.out HB.out)) HC0_2.out (tc (Kd.C_below HR0_3.out HB.out)) HC0_3.out (tc (Kd.C_below HR0_4.out HB.out)) HC0_4.out (tc (Kd.C_below HR0_5.out HB.out)) HC0_5.out A30.out).mono ?_); rintro e w36 ⟨rfl, hb⟩; refine ⟨_, rfl, ?_⟩; replace HO_7 := ra HO_7.out hb; replace BK101 := ba BK101.out hb; replace HB := Aside0.mk (below_step (tg1 HB.out GE101.out) hb); (try clear hb)) | ((with_reducible refine gate_callee (f := 31) rfl ?_); refine goesL_ (some 58) rfl rfl Tryd.func31 (by kernel_rfl) rfl #[.agg #[.int .i64 t109, .int .i64 t110], .int .i64 (wrap64 (a1))] rfl tm ?_; (with_reducible refine (layout_At.calls k2 t109 t110 (wrap64 (a1)) t111 t112 t113 _ A31.out).mono ?_); rintro e w37 ⟨rfl, hb⟩; refine ⟨_, rfl, ?_⟩; replace HO_7 := ra HO_7.out hb; replace BK101 := ba BK101.out hb; replace HB := Aside0.mk (below_step (tg1 HB.out GE101.out) hb); (try clear hb)) | ((with_reducible refine gate_dst (N := 9) rfl ?_); (try (refine gate_guard (by rfl) ?_; dsimp only)); refine box_event ?hg (N := 9) ?hd (cs := #[.int .u32 0, .int .u32 0]) (t := 73) ?hr ?_; (case hd => rfl); (case hg => rfl); (case hr => first | (go_simp; done) | (go_simp; rfl)); intro gb114 hg w38 hbox hb; have n0_ := ra HO_7.out hb; have n1_ := ba BK101.out hb; have n2_ := Aside0.mk (below_step (tg1 HB.out GE101.out) hb); have n3_ := Aside0.mk (hbox); have n4_ := Aside0.mk ((by rw [hg]; exact (below_size (tg1 HB.out GE101.out)) : w.heap.size ≤ gb114)); have n5_ := Aside0.mk ((by rw [hg]; exact (below_size (tg1 HB.out GE101.out)) : w.heap.size ≤ gb114)); have n6_ := Aside0.mk ((by rw [hg]; exact Nat.ne_of_lt (blk_lt (g := gb101) (o := .cells #[.string a0_0, .slice A0_1 l0_1.length c0_1, .slice A0_2 l0_2.length c0_2, .slice A0_3 l0_3.length c0_3, .slice A0_4 l0_4.length c0_4, .slice A0_5 l0_5.length c0_5] 26 (0, 0)) (tb BK101.out)) : gb101 ≠ gb114)); have n7_ := Aside0.mk ((by rw [hg]; exact Nat.ne_of_gt (blk_lt (g := gb101) (o := .cells #[.string a0_0, .slice A0_1 l0_1.length c0_1, .slice A0_2 l0_2.length c0_2, .slice A0_3 l0_3.length c0_3, .slice A0_4 l0_4.length c0_4, .slice A0_5 l0_5.length c0_5] 26 (0, 0)) (tb BK101.out)) : gb114 ≠ gb101)); clear HO_7; clear BK101; clear HB; have HO_7 := n0_; have BK101 := n1_; have HB := n2_; have BK114 := n3_; have GW114 := n4_; have GE114 := n5_; have NB101_114 := n6_; have NB114_101 := n7_; clear n0_ n1_ n2_ n3_ n4_ n5_ n6_ n7_; clear hb hbox hg; have hnb39 := NB114_101.out; have hnc39 := NB101_114.out; obtain ⟨hcz40_0, hcz40_1, hfz40_0, hfz40_1⟩ := cq2 BK114.out; obtain ⟨hcz41_0, hcz41_1, hcz41_2, hcz41_3, hcz41_4, hcz41_5, hfz41_0, hfz41_1, hfz41_2, hfz41_3, hfz41_4, hfz41_5⟩ := cq6 BK101.out; obtain ⟨Ao42, co42, eo42⟩ := Kd.R_slice HO_7.out; subst eo42) | ((with_reducible refine gate_callee (f := 33) rfl ?_); refine goesL_ (some 68) rfl rfl Tryd.func33 (by kernel_rfl) rfl #[.agg #[.string a0_0, .slice A0_1 l0_1.length c0_1, .slice A0_2 l0_2.length c0_2, .slice A0_3 l0_3.length c0_3, .slice A0_4 l0_4.length c0_4, .slice A0_5 l0_5.length c0_5], .agg #[.int .u32 t111, .int .u32 t112], .slice Ao42 x7_2.length co42] rfl tm ?_; (with_reducible refine (link_Image.calls k2 a0_0 _ _ l0_1 _ _ l0_2 _ _ l0_3 _ _ l0_4 _ _ l0_5 t111 t112 _ _ x7_2 t116 t119 _ (Kd.C_below HR0_1.out (tg2 HB.out GE101.out GE114.out)) HC0_1.out (Kd.C_below HR0_2.out (tg2 HB.out GE101.out GE114.out)) HC0_2.out (Kd.C_below HR0_3.out (tg2 HB.out GE101.out GE114.out)) HC0_3.out (Kd.C_below HR0_4.out (tg2 HB.out GE101.out GE114.out)) HC0_4.out (Kd.C_below HR0_5.out (tg2 HB.out GE101.out GE114.out)) HC0_5.out (by refine (Kd.R_reads' (e := 44) (base := w.heap.size) (ok := fun k_ => True) (n := x7_2.length) (c := co42) ?_).2.2; exact (by (with_reducible repeat (first | apply Kd.R_alloc | apply Kd.R_drewN | apply Kd.R_drew)); exact (Kd.R_mono (Kd.R_far (p := ⟨gb114, 1, none⟩) (Kd.R_far (p := ⟨gb114, 0, none⟩) (Kd.R_types HO_7.out BK114.out (by decide)) (fun _ hk => hk.2) (.int .u32 t111)) (fun _ hk => hk.2) (.int .u32 t112)) (fun _ h_ => h_.1)))) (rl HO_7.out) A33.out).mono ?_); rintro e w43 ⟨v117, rfl, ho0, hb⟩; refine ⟨_, rfl, ?_⟩; have n0_ := Aside0.mk (Kd.R_elder' (by (with_reducible repeat (first | apply Kd.R_alloc | apply Kd.R_drewN | apply Kd.R_drew)); exact (Kd.R_mono (Kd.R_far (p := ⟨gb114, 1, none⟩) (Kd.R_far (p := ⟨gb114, 0, none⟩) (Kd.R_types HO_7.out BK114.out (by decide)) (fun _ hk => hk.2) (.int .u32 t111)) (fun _ hk => hk.2) (.int .u32 t112)) (fun _ h_ => h_.1))) (Kd.R_base ho0) hb); have n1_ := Aside0.mk (Kd.R_lower (Kd.R_new' ho0 (Kd.R_lt (by (with_reducible repeat (first | apply Kd.R_alloc | apply Kd.R_drewN | apply Kd.R_drew)); exact (Kd.R_mono (Kd.R_far (p := ⟨gb114, 1, none⟩) (Kd.R_far (p := ⟨gb114, 0, none⟩) (Kd.R_types HO_7.out BK114.out (by decide)) (fun _ hk => hk.2) (.int .u32 t111)) (fun _ hk => hk.2) (.int .u32 t112)) (fun _ h_ => h_.1))))) (below_size (tg2 HB.out GE101.out GE114.out))); have n2_ := Aside0.mk (blk_below (g := gb101) (o := .cells #[.string a0_0, .slice A0_1 l0_1.length c0_1, .slice A0_2 l0_2.length c0_2, .slice A0_3 l0_3.length c0_3, .slice A0_4 l0_4.length c0_4, .slice A0_5 l0_5.length c0_5] 26 (0, 0)) (by (with_reducible repeat (first | refine blk_drewN ?_ _ | refine blk_drew ?_ | refine blk_alloc ?_ _)); refine blk_far ?_ NB101_114.out _; (with_reducible repeat (first | refine blk_drewN ?_ _ | refine blk_drew ?_ | refine blk_alloc ?_ _)); refine blk_far ?_ NB101_114.out _; (with_reducible repeat (first | refine blk_drewN ?_ _ | refine blk_drew ?_ | refine blk_alloc ?_ _)); exact BK101.out) hb); have n3_ := Aside0.mk (blk_below (g := gb114) (o := .cells #[.int .u32 t111, .int .u32 t112] 73 (0, 0)) (by (with_reducible repeat (first | refine blk_drewN ?_ _ | refine blk_drew ?_ | refine blk_alloc ?_ _)); refine blk_put (cs := #[.int .u32 t111, .int .u32 0]) ?_ 1 _ rfl; (with_reducible repeat (first | refine blk_drewN ?_ _ | refine blk_drew ?_ | refine blk_alloc ?_ _)); refine blk_put (cs := #[.int .u32 0, .int .u32 0]) ?_ 0 _ rfl; (with_reducible repeat (first | refine blk_drewN ?_ _ | refine blk_drew ?_ | refine blk_alloc ?_ _)); exact BK114.out) hb); have n4_ := Aside0.mk (below_step (tg2 HB.out GE101.out GE114.out) hb); clear HO_7; clear BK101; clear BK114; clear HB; have HO_7 := n0_; have HO118 := n1_; have BK101 := n2_; have BK114 := n3_; have HB := n4_; clear n0_ n1_ n2_ n3_ n4_; (try clear hb); (try clear ho0)))
        (try simp only [Act.put, List.setIfInBounds_toArray, List.set_cons_zero, List.set_cons_succ])
        go_cut [80] (fun v80 wc => ∃ (kq : Nat) (x80_33 : Bool), v80 = .bool x80_33 ∧ Aside0 (budwoodlaw16_LinkOnly.j2 kq t116 x80_33 a0_0 l0_1 l0_2 l0_3 l0_4 l0_5 = some r) ∧ Aside0 (kq ≤ k2) ∧ Aside0 (Kd.R (Kd.int .u32) 44 wc w.heap.size (fun _ => True) v117 t116) ∧ Aside0 (wc.heap[gb101]? = some (.cells #[.string a0_0, (.slice A0_1 l0_1.length c0_1), (.slice A0_2 l0_2.length c0_2), (.slice A0_3 l0_3.length c0_3), (.slice A0_4 l0_4.length c0_4), (.slice A0_5 l0_5.length c0_5)] 26 (0, 0))) ∧ Aside0 (wc.heap[gb114]? = some (.cells #[.int .u32 t111, .int .u32 t112] 73 (0, 0))) ∧ Aside0 (Below w.heap.size w wc))
        case first =>
         have H := HC34.out
         clear HC34
         by_cases c44 : t119 = 0
         ·rw [if_pos c44] at H
          have c44b0 : (t119 == 0) = true := beq_iff_eq.mpr c44
          have c44b1 : (t119 != 0) = false := bne_eq_false_iff_eq.mpr c44
          clear c44
          (first | rw [c44b0] | (simp only [i64_w, i32_w]; rw [c44b0]) | skip)
          replace H := Option.bind_eq_some_iff.mp H
          obtain ⟨⟨t120, t121⟩, A450, H⟩ := H
          replace H : ((layout_Words.f t120 t121).bind fun t122 => (budwoodlaw16_LinkOnly.j2 k2 t116 ((t116.length : Int) != t122) a0_0 l0_1 l0_2 l0_3 l0_4 l0_5)) = some r := H
          have A45 := Aside0.mk A450
          clear A450
          replace H := Option.bind_eq_some_iff.mp H
          obtain ⟨t122, A460, H⟩ := H
          replace H : (budwoodlaw16_LinkOnly.j2 k2 t116 ((t116.length : Int) != t122) a0_0 l0_1 l0_2 l0_3 l0_4 l0_5) = some r := H
          have A46 := Aside0.mk A460
          clear A460
          have H' := Aside0.mk H
          clear H
          obtain ⟨Ao47, co47, eo47⟩ := Kd.R_slice HO118.out
          subst eo47
          have hnb48 := NB101_114.out
          have hnc48 := NB114_101.out
          obtain ⟨hcz49_0, hcz49_1, hcz49_2, hcz49_3, hcz49_4, hcz49_5, hfz49_0, hfz49_1, hfz49_2, hfz49_3, hfz49_4, hfz49_5⟩ := cq6 BK101.out
          go_wp2_with (first | (go_at_call 32; (with_reducible refine (layout_Of.calls a0_0 _ _ l0_1 _ _ l0_2 _ _ l0_3 _ _ l0_4 _ _ l0_5 t120 t121 _ (tc (Kd.C_below HR0_1.out HB.out)) HC0_1.out (tc (Kd.C_below HR0_2.out HB.out)) HC0_2.out (tc (Kd.C_below HR0_3.out HB.out)) HC0_3.out (tc (Kd.C_below HR0_4.out HB.out)) HC0_4.out (tc (Kd.C_below HR0_5.out HB.out)) HC0_5.out A45.out).mono ?_); rintro e w50 ⟨rfl, hb⟩; replace HO_7 := ra HO_7.out hb; replace HO118 := ra HO118.out hb; replace BK101 := ba BK101.out hb; replace BK114 := ba BK114.out hb; replace HB := Aside0.mk (below_step (tg2 HB.out GE101.out GE114.out) hb); (try clear hb)) | (go_at_call 34; (with_reducible refine (layout_Words.calls t120 t121 t122 _ A46.out).mono ?_); rintro e w51 ⟨rfl, hb⟩; replace HO_7 := ra HO_7.out hb; replace HO118 := ra HO118.out hb; replace BK101 := ba BK101.out hb; replace BK114 := ba BK114.out hb; replace HB := Aside0.mk (below_step (tg2 HB.out GE101.out GE114.out) hb); (try clear hb)))
          go_meet
          case rel => exact ⟨_, (((t116.length : Int) != t122)), ts, H', ⟨by have := HJ3.out; have := HK2.out; first | omega | exact Nat.le_refl _⟩, ⟨by (with_reducible repeat (first | apply Kd.R_alloc | apply Kd.R_drewN | apply Kd.R_drew)); exact Kd.R_mono HO118.out (fun _ hk => trivial)⟩, ⟨tb BK101.out⟩, ⟨tb BK114.out⟩, ⟨tg2 HB.out GE101.out GE114.out⟩⟩
         ·rw [if_neg c44] at H
          have c44b0 : (t119 == 0) = false := beq_eq_false_iff_ne.mpr c44
          have c44b1 : (t119 != 0) = true := bne_iff_ne.mpr c44
          (first | rw [c44b0] | (simp only [i64_w, i32_w]; rw [c44b0]) | skip)
          have H' := Aside0.mk H
          clear H
          go_wp2
          go_meet
          case rel => exact ⟨_, (true), ts, H', ⟨by have := HJ3.out; have := HK2.out; first | omega | exact Nat.le_refl _⟩, ⟨by (with_reducible repeat (first | apply Kd.R_alloc | apply Kd.R_drewN | apply Kd.R_drew)); exact Kd.R_mono HO118.out (fun _ hk => trivial)⟩, ⟨tb BK101.out⟩, ⟨tb BK114.out⟩, ⟨tg2 HB.out GE101.out GE114.out⟩⟩
        case rest =>
         clear HC34
         try clear c1
         try clear p1
         try clear q1
         try clear hx1
         try clear c2
         try clear p2
         try clear c3
         try clear c4
         try clear p6
         try clear c7
         try clear c7b0
         try clear c10
         try clear p10
         try clear q10
         try clear hx10
         try clear c11
         try clear c11b0
         try clear c11b1
         try clear c13
         try clear c21
         try clear c22
         try clear c24
         try clear c24b0
         try clear c25
         try clear c25b0
         try clear c26
         try clear c26b0
         try clear c27
         try clear c31
         try clear c32
         try clear c32b0
         try clear c32b1
         try clear c33
         try clear c39
         try clear c44
         try clear c44b0
         try clear c44b1
         try clear c48
         try clear hcz12_0 hcz12_1 hcz12_2 hcz12_3 hcz12_4 hcz12_5 hfz12_0 hfz12_1 hfz12_2 hfz12_3 hfz12_4 hfz12_5
         try clear hcz14_0 hcz14_1 hcz14_2 hcz14_3 hcz14_4 hcz14_5 hfz14_0 hfz14_1 hfz14_2 hfz14_3 hfz14_4 hfz14_5
         try clear hcz16_0 hcz16_1 hcz16_2 hcz16_3 hcz16_4 hcz16_5 hfz16_0 hfz16_1 hfz16_2 hfz16_3 hfz16_4 hfz16_5
         try clear hcz17_0 hcz17_1 hcz17_2 hcz17_3 hcz17_4 hcz17_5 hfz17_0 hfz17_1 hfz17_2 hfz17_3 hfz17_4 hfz17_5
         try clear hcz19_0 hcz19_1 hcz19_2 hcz19_3 hcz19_4 hcz19_5 hfz19_0 hfz19_1 hfz19_2 hfz19_3 hfz19_4 hfz19_5
         try clear hcz28_0 hcz28_1 hcz28_2 hcz28_3 hcz28_4 hcz28_5 hfz28_0 hfz28_1 hfz28_2 hfz28_3 hfz28_4 hfz28_5
         try clear hcz35_0 hcz35_1 hcz35_2 hcz35_3 hcz35_4 hcz35_5 hfz35_0 hfz35_1 hfz35_2 hfz35_3 hfz35_4 hfz35_5
         try clear hcz40_0 hcz40_1 hfz40_0 hfz40_1
         try clear hcz41_0 hcz41_1 hcz41_2 hcz41_3 hcz41_4 hcz41_5 hfz41_0 hfz41_1 hfz41_2 hfz41_3 hfz41_4 hfz41_5
         try clear hcz49_0 hcz49_1 hcz49_2 hcz49_3 hcz49_4 hcz49_5 hfz49_0 hfz49_1 hfz49_2 hfz49_3 hfz49_4 hfz49_5
         try clear hcz8_0 hcz8_1 hcz8_2 hcz8_3 hcz8_4 hcz8_5 hfz8_0 hfz8_1 hfz8_2 hfz8_3 hfz8_4 hfz8_5
         try clear hx105_0
         try clear p105
         try clear p2
         try clear q105
         obtain ⟨kq, x80_33, rfl, HA, HJ33, HO_11, BK101, BK114, HB⟩ := hcut
         cases kq with
         | zero => exact absurd HA.out (by simp [budwoodlaw16_LinkOnly.j2])
         | succ kj33 =>
          have H := HA.out
          clear HA
          simp only [budwoodlaw16_LinkOnly.j2] at H
          by_cases c52 : x80_33 = true
          ·subst c52
           have H1 : (some false) = some r := by rw [if_pos rfl] at H; exact H
           clear H
           have H := H1
           clear H1
           obtain rfl := Option.some.inj H
           go_wp2
           go_ret
           exact ⟨te, tg2 HB.out GE101.out GE114.out⟩
          ·replace c52 := Bool.eq_false_iff.mpr c52
           subst c52
           have H1 : (budwoodlaw16_LinkOnly.l1 kj33 t116 0 a0_0 l0_1 l0_2 l0_3 l0_4 l0_5) = some r := by rw [if_neg (show ¬ (false = true) by decide)] at H; exact H
           clear H
           have H := H1
           clear H1
           have H' := Aside0.mk H
           clear H
           go_wp2
           go_loopg [13] kj33 (fun kq v13 w' => ∃ (x13_4 : Int), v13 = .int .i64 x13_4 ∧ Aside0 (budwoodlaw16_LinkOnly.l1 kq t116 x13_4 a0_0 l0_1 l0_2 l0_3 l0_4 l0_5 = some r) ∧ Aside0 (kq ≤ kj33) ∧ Aside0 (Kd.R (Kd.int .u32) 44 w' w.heap.size (fun _ => True) v117 t116) ∧ Aside0 (w'.heap[gb101]? = some (.cells #[.string a0_0, (.slice A0_1 l0_1.length c0_1), (.slice A0_2 l0_2.length c0_2), (.slice A0_3 l0_3.length c0_3), (.slice A0_4 l0_4.length c0_4), (.slice A0_5 l0_5.length c0_5)] 26 (0, 0))) ∧ Aside0 (w'.heap[gb114]? = some (.cells #[.int .u32 t111, .int .u32 t112] 73 (0, 0))) ∧ Aside0 (Below w.heap.size w w'))
           case atStart => exact ⟨(0), ts, H', ⟨Nat.le_refl _⟩, ⟨tk HO_11.out⟩, ⟨tb BK101.out⟩, ⟨tb BK114.out⟩, ⟨tg2 HB.out GE101.out GE114.out⟩⟩
           case round =>
            clear H'
            try clear c1
            try clear p1
            try clear q1
            try clear hx1
            try clear c2
            try clear p2
            try clear c3
            try clear c4
            try clear c5
            try clear p6
            try clear c7
            try clear c7b0
            try clear c10
            try clear p10
            try clear q10
            try clear hx10
            try clear c11
            try clear c11b0
            try clear c11b1
            try clear c13
            try clear c21
            try clear c22
            try clear c24
            try clear c24b0
            try clear c25
            try clear c25b0
            try clear c26
            try clear c26b0
            try clear c27
            try clear c31
            try clear c32
            try clear c32b0
            try clear c32b1
            try clear c33
            try clear c39
            try clear c44
            try clear c44b0
            try clear c44b1
            try clear c48
            try clear c52
            try clear hcz12_0 hcz12_1 hcz12_2 hcz12_3 hcz12_4 hcz12_5 hfz12_0 hfz12_1 hfz12_2 hfz12_3 hfz12_4 hfz12_5
            try clear hcz14_0 hcz14_1 hcz14_2 hcz14_3 hcz14_4 hcz14_5 hfz14_0 hfz14_1 hfz14_2 hfz14_3 hfz14_4 hfz14_5
            try clear hcz16_0 hcz16_1 hcz16_2 hcz16_3 hcz16_4 hcz16_5 hfz16_0 hfz16_1 hfz16_2 hfz16_3 hfz16_4 hfz16_5
            try clear hcz17_0 hcz17_1 hcz17_2 hcz17_3 hcz17_4 hcz17_5 hfz17_0 hfz17_1 hfz17_2 hfz17_3 hfz17_4 hfz17_5
            try clear hcz19_0 hcz19_1 hcz19_2 hcz19_3 hcz19_4 hcz19_5 hfz19_0 hfz19_1 hfz19_2 hfz19_3 hfz19_4 hfz19_5
            try clear hcz28_0 hcz28_1 hcz28_2 hcz28_3 hcz28_4 hcz28_5 hfz28_0 hfz28_1 hfz28_2 hfz28_3 hfz28_4 hfz28_5
            try clear hcz35_0 hcz35_1 hcz35_2 hcz35_3 hcz35_4 hcz35_5 hfz35_0 hfz35_1 hfz35_2 hfz35_3 hfz35_4 hfz35_5
            try clear hcz40_0 hcz40_1 hfz40_0 hfz40_1
            try clear hcz41_0 hcz41_1 hcz41_2 hcz41_3 hcz41_4 hcz41_5 hfz41_0 hfz41_1 hfz41_2 hfz41_3 hfz41_4 hfz41_5
            try clear hcz49_0 hcz49_1 hcz49_2 hcz49_3 hcz49_4 hcz49_5 hfz49_0 hfz49_1 hfz49_2 hfz49_3 hfz49_4 hfz49_5
            try clear hcz8_0 hcz8_1 hcz8_2 hcz8_3 hcz8_4 hcz8_5 hfz8_0 hfz8_1 hfz8_2 hfz8_3 hfz8_4 hfz8_5
            try clear hx105_0
            try clear p1
            try clear p10
            try clear p105
            try clear p2
            try clear p6
            try clear q1
            try clear q10
            try clear q105
            obtain ⟨x13_4, rfl, HA, HK4, HO_11, BK101, BK114, HB⟩ := hrel
            cases gk with
            | zero => exact absurd HA.out (by simp [budwoodlaw16_LinkOnly.l1])
            | succ k4 =>
             have H := HA.out
             clear HA
             simp only [budwoodlaw16_LinkOnly.l1] at H
             by_cases c53 : x13_4 < (t116.length : Int)
             ·rw [if_pos c53] at H
              have c53b0 : decide (x13_4 < (t116.length : Int)) = true := decide_eq_true c53
              clear c53
              replace H := Option.bind_eq_some_iff.mp H
              obtain ⟨⟨t124, t125, t126⟩, A540, H⟩ := H
              replace H : (budwoodlaw16_LinkOnly.l2 k4 t116 x13_4 t124 t125 t126 false 0 a0_0 l0_1 l0_2 l0_3 l0_4 l0_5) = some r := H
              have A54 := Aside0.mk A540
              clear A540
              have H' := Aside0.mk H
              clear H
              obtain ⟨Ao55, co55, eo55⟩ := Kd.R_slice HO_11.out
              subst eo55
              have hnb56 := NB101_114.out
              have hnc56 := NB114_101.out
              obtain ⟨hcz57_0, hcz57_1, hcz57_2, hcz57_3, hcz57_4, hcz57_5, hfz57_0, hfz57_1, hfz57_2, hfz57_3, hfz57_4, hfz57_5⟩ := cq6 BK101.out
              go_wp2_with (first | ((with_reducible refine gate_callee (f := 35) rfl ?_); refine goesL_ (some 90) rfl rfl Tryd.func35 (by kernel_rfl) rfl #[.agg #[.string a0_0, .slice A0_1 l0_1.length c0_1, .slice A0_2 l0_2.length c0_2, .slice A0_3 l0_3.length c0_3, .slice A0_4 l0_4.length c0_4, .slice A0_5 l0_5.length c0_5], .int .i64 x13_4] rfl tm ?_; (with_reducible refine (layout_Spot.calls a0_0 _ _ l0_1 _ _ l0_2 _ _ l0_3 _ _ l0_4 _ _ l0_5 x13_4 t124 t125 t126 _ (tc (Kd.C_below HR0_1.out HB.out)) HC0_1.out (tc (Kd.C_below HR0_2.out HB.out)) HC0_2.out (tc (Kd.C_below HR0_3.out HB.out)) HC0_3.out (tc (Kd.C_below HR0_4.out HB.out)) HC0_4.out (tc (Kd.C_below HR0_5.out HB.out)) HC0_5.out A54.out).mono ?_); rintro e w58 ⟨rfl, hb⟩; refine ⟨_, rfl, ?_⟩; replace HO_11 := ra HO_11.out hb; replace BK101 := ba BK101.out hb; replace BK114 := ba BK114.out hb; replace HB := Aside0.mk (below_step (tg2 HB.out GE101.out GE114.out) hb); (try clear hb)))
              go_loopg [17, 18] k4 (fun kq v17 v18 w' => ∃ (x17_5 : Bool) (x18_5 : Int), v17 = .bool x17_5 ∧ v18 = .int .i64 x18_5 ∧ Aside0 (budwoodlaw16_LinkOnly.l2 kq t116 x13_4 t124 t125 t126 x17_5 x18_5 a0_0 l0_1 l0_2 l0_3 l0_4 l0_5 = some r) ∧ Aside0 (kq ≤ k4) ∧ Aside0 (Kd.R (Kd.int .u32) 44 w' w.heap.size (fun _ => True) (.slice Ao55 t116.length co55) t116) ∧ Aside0 (w'.heap[gb101]? = some (.cells #[.string a0_0, (.slice A0_1 l0_1.length c0_1), (.slice A0_2 l0_2.length c0_2), (.slice A0_3 l0_3.length c0_3), (.slice A0_4 l0_4.length c0_4), (.slice A0_5 l0_5.length c0_5)] 26 (0, 0))) ∧ Aside0 (w'.heap[gb114]? = some (.cells #[.int .u32 t111, .int .u32 t112] 73 (0, 0))) ∧ Aside0 (Below w.heap.size w w'))
              case atStart => exact ⟨(false), (0), ts, ts, H', ⟨Nat.le_refl _⟩, ⟨tk HO_11.out⟩, ⟨tb BK101.out⟩, ⟨tb BK114.out⟩, ⟨tg2 HB.out GE101.out GE114.out⟩⟩
              case round =>
               clear H'
               try clear c1
               try clear p1
               try clear q1
               try clear hx1
               try clear c2
               try clear p2
               try clear c3
               try clear c4
               try clear c5
               try clear p6
               try clear c7
               try clear c7b0
               try clear c10
               try clear p10
               try clear q10
               try clear hx10
               try clear c11
               try clear c11b0
               try clear c11b1
               try clear c13
               try clear c21
               try clear c22
               try clear c24
               try clear c24b0
               try clear c25
               try clear c25b0
               try clear c26
               try clear c26b0
               try clear c27
               try clear c31
               try clear c32
               try clear c32b0
               try clear c32b1
               try clear c33
               try clear c35
               try clear c39
               try clear c44
               try clear c44b0
               try clear c44b1
               try clear c48
               try clear c52
               try clear c53
               try clear c53b0
               try clear c56
               try clear hcz12_0 hcz12_1 hcz12_2 hcz12_3 hcz12_4 hcz12_5 hfz12_0 hfz12_1 hfz12_2 hfz12_3 hfz12_4 hfz12_5
               try clear hcz14_0 hcz14_1 hcz14_2 hcz14_3 hcz14_4 hcz14_5 hfz14_0 hfz14_1 hfz14_2 hfz14_3 hfz14_4 hfz14_5
               try clear hcz16_0 hcz16_1 hcz16_2 hcz16_3 hcz16_4 hcz16_5 hfz16_0 hfz16_1 hfz16_2 hfz16_3 hfz16_4 hfz16_5
               try clear hcz17_0 hcz17_1 hcz17_2 hcz17_3 hcz17_4 hcz17_5 hfz17_0 hfz17_1 hfz17_2 hfz17_3 hfz17_4 hfz17_5
               try clear hcz19_0 hcz19_1 hcz19_2 hcz19_3 hcz19_4 hcz19_5 hfz19_0 hfz19_1 hfz19_2 hfz19_3 hfz19_4 hfz19_5
               try clear hcz28_0 hcz28_1 hcz28_2 hcz28_3 hcz28_4 hcz28_5 hfz28_0 hfz28_1 hfz28_2 hfz28_3 hfz28_4 hfz28_5
               try clear hcz35_0 hcz35_1 hcz35_2 hcz35_3 hcz35_4 hcz35_5 hfz35_0 hfz35_1 hfz35_2 hfz35_3 hfz35_4 hfz35_5
               try clear hcz40_0 hcz40_1 hfz40_0 hfz40_1
               try clear hcz41_0 hcz41_1 hcz41_2 hcz41_3 hcz41_4 hcz41_5 hfz41_0 hfz41_1 hfz41_2 hfz41_3 hfz41_4 hfz41_5
               try clear hcz49_0 hcz49_1 hcz49_2 hcz49_3 hcz49_4 hcz49_5 hfz49_0 hfz49_1 hfz49_2 hfz49_3 hfz49_4 hfz49_5
               try clear hcz57_0 hcz57_1 hcz57_2 hcz57_3 hcz57_4 hcz57_5 hfz57_0 hfz57_1 hfz57_2 hfz57_3 hfz57_4 hfz57_5
               try clear hcz8_0 hcz8_1 hcz8_2 hcz8_3 hcz8_4 hcz8_5 hfz8_0 hfz8_1 hfz8_2 hfz8_3 hfz8_4 hfz8_5
               try clear hx105_0
               try clear p1
               try clear p10
               try clear p105
               try clear p2
               try clear p6
               try clear q1
               try clear q10
               try clear q105
               obtain ⟨x17_5, x18_5, rfl, rfl, HA, HK5, HO_11, BK101, BK114, HB⟩ := hrel
               cases gk with
               | zero => exact absurd HA.out (by simp [budwoodlaw16_LinkOnly.l2])
               | succ k5 =>
                have H := HA.out
                clear HA
                simp only [budwoodlaw16_LinkOnly.l2] at H
                by_cases c59 : x18_5 < (l0_5.length : Int)
                ·rw [if_pos c59] at H
                 have c59b0 : decide (x18_5 < (l0_5.length : Int)) = true := decide_eq_true c59
                 clear c59
                 by_cases c60 : 0 ≤ x18_5
                 ·rw [if_pos c60] at H
                  have c60b0 : decide (0 ≤ x18_5) = true := decide_eq_true c60
                  clear c60
                  by_cases c61 : ((rd_T43 l0_5 x18_5).f0) = 4
                  ·rw [if_pos c61] at H
                   have c61b0 : (((rd_T43 l0_5 x18_5).f0) == 4) = true := beq_iff_eq.mpr c61
                   have c61b1 : (((rd_T43 l0_5 x18_5).f0) != 4) = false := bne_eq_false_iff_eq.mpr c61
                   clear c61
                   by_cases c62 : x17_5 = true
                   ·subst c62
                    have H1 : (budwoodlaw16_LinkOnly.l2 k5 t116 x13_4 t124 t125 t126 true (wrap64 (x18_5 + 1)) a0_0 l0_1 l0_2 l0_3 l0_4 l0_5) = some r := by rw [if_pos rfl] at H; exact H
                    clear H
                    have H := H1
                    clear H1
                    have H' := Aside0.mk H
                    clear H
                    have hnb63 := NB101_114.out
                    have hnc63 := NB114_101.out
                    obtain ⟨hcz64_0, hcz64_1, hcz64_2, hcz64_3, hcz64_4, hcz64_5, hfz64_0, hfz64_1, hfz64_2, hfz64_3, hfz64_4, hfz64_5⟩ := cq6 BK101.out
                    have p127 : 0 ≤ (x18_5 : Int) := td
                    have q127 : x18_5 < (l0_5.length : Int) := td
                    obtain ⟨ad127, e127, hx127_0, hx127_1, hx127_2⟩ := at_T43 HR0_5.out x18_5 p127 q127
                    cases e127
                    replace hx127_0 := (HB.out.cell (World.block_lt_of_cell? w _ hx127_0)).trans hx127_0
                    replace hx127_1 := (HB.out.cell (World.block_lt_of_cell? w _ hx127_1)).trans hx127_1
                    replace hx127_2 := (HB.out.cell (World.block_lt_of_cell? w _ hx127_2)).trans hx127_2
                    replace p127 := eq_true p127
                    replace q127 := eq_true q127
                    go_wp2
                    go_roundg k5
                    case measure => have := HJ3.out; have := HK2.out; have := HJ33.out; have := HK4.out; have := HK5.out; omega
                    case rel => exact ⟨(true), (wrap64 (x18_5 + 1)), ts, ts, H', ⟨by have := HJ3.out; have := HK2.out; have := HJ33.out; have := HK4.out; have := HK5.out; omega⟩, ⟨tk HO_11.out⟩, ⟨tb BK101.out⟩, ⟨tb BK114.out⟩, ⟨tg2 HB.out GE101.out GE114.out⟩⟩
                   ·replace c62 := Bool.eq_false_iff.mpr c62
                    subst c62
                    have H1 : (if t126 = true then (if (wrap64 ((rd_T43 l0_5 x18_5).f1)) = t125 then (budwoodlaw16_LinkOnly.l2 k5 t116 x13_4 t124 t125 t126 (true != t124) (wrap64 (x18_5 + 1)) a0_0 l0_1 l0_2 l0_3 l0_4 l0_5) else (budwoodlaw16_LinkOnly.l2 k5 t116 x13_4 t124 t125 t126 false (wrap64 (x18_5 + 1)) a0_0 l0_1 l0_2 l0_3 l0_4 l0_5)) else (budwoodlaw16_LinkOnly.l2 k5 t116 x13_4 t124 t125 t126 false (wrap64 (x18_5 + 1)) a0_0 l0_1 l0_2 l0_3 l0_4 l0_5)) = some r := by rw [if_neg (show ¬ (false = true) by decide)] at H; exact H
                    clear H
                    have H := H1
                    clear H1
                    by_cases c65 : t126 = true
                    ·subst c65
                     have H1 : (if (wrap64 ((rd_T43 l0_5 x18_5).f1)) = t125 then (budwoodlaw16_LinkOnly.l2 k5 t116 x13_4 t124 t125 true (true != t124) (wrap64 (x18_5 + 1)) a0_0 l0_1 l0_2 l0_3 l0_4 l0_5) else (budwoodlaw16_LinkOnly.l2 k5 t116 x13_4 t124 t125 true false (wrap64 (x18_5 + 1)) a0_0 l0_1 l0_2 l0_3 l0_4 l0_5)) = some r := by rw [if_pos rfl] at H; exact H
                     clear H
                     have H := H1
                     clear H1
                     by_cases c66 : (wrap64 ((rd_T43 l0_5 x18_5).f1)) = t125
                     ·rw [if_pos c66] at H
                      have c66b0 : ((wrap64 ((rd_T43 l0_5 x18_5).f1)) == t125) = true := beq_iff_eq.mpr c66
                      have c66b1 : ((wrap64 ((rd_T43 l0_5 x18_5).f1)) != t125) = false := bne_eq_false_iff_eq.mpr c66
                      clear c66
                      have H' := Aside0.mk H
                      clear H
                      have hnb67 := NB101_114.out
                      have hnc67 := NB114_101.out
                      obtain ⟨hcz68_0, hcz68_1, hcz68_2, hcz68_3, hcz68_4, hcz68_5, hfz68_0, hfz68_1, hfz68_2, hfz68_3, hfz68_4, hfz68_5⟩ := cq6 BK101.out
                      have p127 : 0 ≤ (x18_5 : Int) := td
                      have q127 : x18_5 < (l0_5.length : Int) := td
                      obtain ⟨ad127, e127, hx127_0, hx127_1, hx127_2⟩ := at_T43 HR0_5.out x18_5 p127 q127
                      cases e127
                      replace hx127_0 := (HB.out.cell (World.block_lt_of_cell? w _ hx127_0)).trans hx127_0
                      replace hx127_1 := (HB.out.cell (World.block_lt_of_cell? w _ hx127_1)).trans hx127_1
                      replace hx127_2 := (HB.out.cell (World.block_lt_of_cell? w _ hx127_2)).trans hx127_2
                      replace p127 := eq_true p127
                      replace q127 := eq_true q127
                      have p128 : 0 ≤ (x18_5 : Int) := td
                      have q128 : x18_5 < (l0_5.length : Int) := td
                      obtain ⟨ad128, e128, hx128_0, hx128_1, hx128_2⟩ := at_T43 HR0_5.out x18_5 p128 q128
                      obtain rfl : ad127 = ad128 := (by injection e128)
                      replace hx128_0 := (HB.out.cell (World.block_lt_of_cell? w _ hx128_0)).trans hx128_0
                      replace hx128_1 := (HB.out.cell (World.block_lt_of_cell? w _ hx128_1)).trans hx128_1
                      replace hx128_2 := (HB.out.cell (World.block_lt_of_cell? w _ hx128_2)).trans hx128_2
                      replace p128 := eq_true p128
                      replace q128 := eq_true q128
                      go_wp2
                      go_roundg k5
                      case measure => have := HJ3.out; have := HK2.out; have := HJ33.out; have := HK4.out; have := HK5.out; omega
                      case rel => exact ⟨((true != t124)), (wrap64 (x18_5 + 1)), ts, ts, H', ⟨by have := HJ3.out; have := HK2.out; have := HJ33.out; have := HK4.out; have := HK5.out; omega⟩, ⟨tk HO_11.out⟩, ⟨tb BK101.out⟩, ⟨tb BK114.out⟩, ⟨tg2 HB.out GE101.out GE114.out⟩⟩
                     ·rw [if_neg c66] at H
                      have c66b0 : ((wrap64 ((rd_T43 l0_5 x18_5).f1)) == t125) = false := beq_eq_false_iff_ne.mpr c66
                      have c66b1 : ((wrap64 ((rd_T43 l0_5 x18_5).f1)) != t125) = true := bne_iff_ne.mpr c66
                      have H' := Aside0.mk H
                      clear H
                      have hnb69 := NB101_114.out
                      have hnc69 := NB114_101.out
                      obtain ⟨hcz70_0, hcz70_1, hcz70_2, hcz70_3, hcz70_4, hcz70_5, hfz70_0, hfz70_1, hfz70_2, hfz70_3, hfz70_4, hfz70_5⟩ := cq6 BK101.out
                      have p127 : 0 ≤ (x18_5 : Int) := td
                      have q127 : x18_5 < (l0_5.length : Int) := td
                      obtain ⟨ad127, e127, hx127_0, hx127_1, hx127_2⟩ := at_T43 HR0_5.out x18_5 p127 q127
                      cases e127
                      replace hx127_0 := (HB.out.cell (World.block_lt_of_cell? w _ hx127_0)).trans hx127_0
                      replace hx127_1 := (HB.out.cell (World.block_lt_of_cell? w _ hx127_1)).trans hx127_1
                      replace hx127_2 := (HB.out.cell (World.block_lt_of_cell? w _ hx127_2)).trans hx127_2
                      replace p127 := eq_true p127
                      replace q127 := eq_true q127
                      have p128 : 0 ≤ (x18_5 : Int) := td
                      have q128 : x18_5 < (l0_5.length : Int) := td
                      obtain ⟨ad128, e128, hx128_0, hx128_1, hx128_2⟩ := at_T43 HR0_5.out x18_5 p128 q128
                      obtain rfl : ad127 = ad128 := (by injection e128)
                      replace hx128_0 := (HB.out.cell (World.block_lt_of_cell? w _ hx128_0)).trans hx128_0
                      replace hx128_1 := (HB.out.cell (World.block_lt_of_cell? w _ hx128_1)).trans hx128_1
                      replace hx128_2 := (HB.out.cell (World.block_lt_of_cell? w _ hx128_2)).trans hx128_2
                      replace p128 := eq_true p128
                      replace q128 := eq_true q128
                      go_wp2
                      go_roundg k5
                      case measure => have := HJ3.out; have := HK2.out; have := HJ33.out; have := HK4.out; have := HK5.out; omega
                      case rel => exact ⟨(false), (wrap64 (x18_5 + 1)), ts, ts, H', ⟨by have := HJ3.out; have := HK2.out; have := HJ33.out; have := HK4.out; have := HK5.out; omega⟩, ⟨tk HO_11.out⟩, ⟨tb BK101.out⟩, ⟨tb BK114.out⟩, ⟨tg2 HB.out GE101.out GE114.out⟩⟩
                    ·replace c65 := Bool.eq_false_iff.mpr c65
                     subst c65
                     have H1 : (budwoodlaw16_LinkOnly.l2 k5 t116 x13_4 t124 t125 false false (wrap64 (x18_5 + 1)) a0_0 l0_1 l0_2 l0_3 l0_4 l0_5) = some r := by rw [if_neg (show ¬ (false = true) by decide)] at H; exact H
                     clear H
                     have H := H1
                     clear H1
                     have H' := Aside0.mk H
                     clear H
                     have hnb71 := NB101_114.out
                     have hnc71 := NB114_101.out
                     obtain ⟨hcz72_0, hcz72_1, hcz72_2, hcz72_3, hcz72_4, hcz72_5, hfz72_0, hfz72_1, hfz72_2, hfz72_3, hfz72_4, hfz72_5⟩ := cq6 BK101.out
                     have p127 : 0 ≤ (x18_5 : Int) := td
                     have q127 : x18_5 < (l0_5.length : Int) := td
                     obtain ⟨ad127, e127, hx127_0, hx127_1, hx127_2⟩ := at_T43 HR0_5.out x18_5 p127 q127
                     cases e127
                     replace hx127_0 := (HB.out.cell (World.block_lt_of_cell? w _ hx127_0)).trans hx127_0
                     replace hx127_1 := (HB.out.cell (World.block_lt_of_cell? w _ hx127_1)).trans hx127_1
                     replace hx127_2 := (HB.out.cell (World.block_lt_of_cell? w _ hx127_2)).trans hx127_2
                     replace p127 := eq_true p127
                     replace q127 := eq_true q127
                     go_wp2
                     go_roundg k5
                     case measure => have := HJ3.out; have := HK2.out; have := HJ33.out; have := HK4.out; have := HK5.out; omega
                     case rel => exact ⟨(false), (wrap64 (x18_5 + 1)), ts, ts, H', ⟨by have := HJ3.out; have := HK2.out; have := HJ33.out; have := HK4.out; have := HK5.out; omega⟩, ⟨tk HO_11.out⟩, ⟨tb BK101.out⟩, ⟨tb BK114.out⟩, ⟨tg2 HB.out GE101.out GE114.out⟩⟩
                  ·rw [if_neg c61] at H
                   have c61b0 : (((rd_T43 l0_5 x18_5).f0) == 4) = false := beq_eq_false_iff_ne.mpr c61
                   have c61b1 : (((rd_T43 l0_5 x18_5).f0) != 4) = true := bne_iff_ne.mpr c61
                   by_cases c73 : ((rd_T43 l0_5 x18_5).f0) = 5
                   ·rw [if_pos c73] at H
                    have c73b0 : (((rd_T43 l0_5 x18_5).f0) == 5) = true := beq_iff_eq.mpr c73
                    have c73b1 : (((rd_T43 l0_5 x18_5).f0) != 5) = false := bne_eq_false_iff_eq.mpr c73
                    clear c73
                    by_cases c74 : x17_5 = true
                    ·subst c74
                     have H1 : (budwoodlaw16_LinkOnly.l2 k5 t116 x13_4 t124 t125 t126 true (wrap64 (x18_5 + 1)) a0_0 l0_1 l0_2 l0_3 l0_4 l0_5) = some r := by rw [if_pos rfl] at H; exact H
                     clear H
                     have H := H1
                     clear H1
                     have H' := Aside0.mk H
                     clear H
                     have hnb75 := NB101_114.out
                     have hnc75 := NB114_101.out
                     obtain ⟨hcz76_0, hcz76_1, hcz76_2, hcz76_3, hcz76_4, hcz76_5, hfz76_0, hfz76_1, hfz76_2, hfz76_3, hfz76_4, hfz76_5⟩ := cq6 BK101.out
                     have p127 : 0 ≤ (x18_5 : Int) := td
                     have q127 : x18_5 < (l0_5.length : Int) := td
                     obtain ⟨ad127, e127, hx127_0, hx127_1, hx127_2⟩ := at_T43 HR0_5.out x18_5 p127 q127
                     cases e127
                     replace hx127_0 := (HB.out.cell (World.block_lt_of_cell? w _ hx127_0)).trans hx127_0
                     replace hx127_1 := (HB.out.cell (World.block_lt_of_cell? w _ hx127_1)).trans hx127_1
                     replace hx127_2 := (HB.out.cell (World.block_lt_of_cell? w _ hx127_2)).trans hx127_2
                     replace p127 := eq_true p127
                     replace q127 := eq_true q127
                     have p129 : 0 ≤ (x18_5 : Int) := td
                     have q129 : x18_5 < (l0_5.length : Int) := td
                     obtain ⟨ad129, e129, hx129_0, hx129_1, hx129_2⟩ := at_T43 HR0_5.out x18_5 p129 q129
                     obtain rfl : ad127 = ad129 := (by injection e129)
                     replace hx129_0 := (HB.out.cell (World.block_lt_of_cell? w _ hx129_0)).trans hx129_0
                     replace hx129_1 := (HB.out.cell (World.block_lt_of_cell? w _ hx129_1)).trans hx129_1
                     replace hx129_2 := (HB.out.cell (World.block_lt_of_cell? w _ hx129_2)).trans hx129_2
                     replace p129 := eq_true p129
                     replace q129 := eq_true q129
                     go_wp2
                     go_roundg k5
                     case measure => have := HJ3.out; have := HK2.out; have := HJ33.out; have := HK4.out; have := HK5.out; omega
                     case rel => exact ⟨(true), (wrap64 (x18_5 + 1)), ts, ts, H', ⟨by have := HJ3.out; have := HK2.out; have := HJ33.out; have := HK4.out; have := HK5.out; omega⟩, ⟨tk HO_11.out⟩, ⟨tb BK101.out⟩, ⟨tb BK114.out⟩, ⟨tg2 HB.out GE101.out GE114.out⟩⟩
                    ·replace c74 := Bool.eq_false_iff.mpr c74
                     subst c74
                     have H1 : (if t126 = true then (if (wrap64 ((rd_T43 l0_5 x18_5).f1)) = t125 then (budwoodlaw16_LinkOnly.l2 k5 t116 x13_4 t124 t125 t126 (true != t124) (wrap64 (x18_5 + 1)) a0_0 l0_1 l0_2 l0_3 l0_4 l0_5) else (budwoodlaw16_LinkOnly.l2 k5 t116 x13_4 t124 t125 t126 false (wrap64 (x18_5 + 1)) a0_0 l0_1 l0_2 l0_3 l0_4 l0_5)) else (budwoodlaw16_LinkOnly.l2 k5 t116 x13_4 t124 t125 t126 false (wrap64 (x18_5 + 1)) a0_0 l0_1 l0_2 l0_3 l0_4 l0_5)) = some r := by rw [if_neg (show ¬ (false = true) by decide)] at H; exact H
                     clear H
                     have H := H1
                     clear H1
                     by_cases c77 : t126 = true
                     ·subst c77
                      have H1 : (if (wrap64 ((rd_T43 l0_5 x18_5).f1)) = t125 then (budwoodlaw16_LinkOnly.l2 k5 t116 x13_4 t124 t125 true (true != t124) (wrap64 (x18_5 + 1)) a0_0 l0_1 l0_2 l0_3 l0_4 l0_5) else (budwoodlaw16_LinkOnly.l2 k5 t116 x13_4 t124 t125 true false (wrap64 (x18_5 + 1)) a0_0 l0_1 l0_2 l0_3 l0_4 l0_5)) = some r := by rw [if_pos rfl] at H; exact H
                      clear H
                      have H := H1
                      clear H1
                      by_cases c78 : (wrap64 ((rd_T43 l0_5 x18_5).f1)) = t125
                      ·rw [if_pos c78] at H
                       have c78b0 : ((wrap64 ((rd_T43 l0_5 x18_5).f1)) == t125) = true := beq_iff_eq.mpr c78
                       have c78b1 : ((wrap64 ((rd_T43 l0_5 x18_5).f1)) != t125) = false := bne_eq_false_iff_eq.mpr c78
                       clear c78
                       have H' := Aside0.mk H
                       clear H
                       have hnb79 := NB101_114.out
                       have hnc79 := NB114_101.out
                       obtain ⟨hcz80_0, hcz80_1, hcz80_2, hcz80_3, hcz80_4, hcz80_5, hfz80_0, hfz80_1, hfz80_2, hfz80_3, hfz80_4, hfz80_5⟩ := cq6 BK101.out
                       have p127 : 0 ≤ (x18_5 : Int) := td
                       have q127 : x18_5 < (l0_5.length : Int) := td
                       obtain ⟨ad127, e127, hx127_0, hx127_1, hx127_2⟩ := at_T43 HR0_5.out x18_5 p127 q127
                       cases e127
                       replace hx127_0 := (HB.out.cell (World.block_lt_of_cell? w _ hx127_0)).trans hx127_0
                       replace hx127_1 := (HB.out.cell (World.block_lt_of_cell? w _ hx127_1)).trans hx127_1
                       replace hx127_2 := (HB.out.cell (World.block_lt_of_cell? w _ hx127_2)).trans hx127_2
                       replace p127 := eq_true p127
                       replace q127 := eq_true q127
                       have p129 : 0 ≤ (x18_5 : Int) := td
                       have q129 : x18_5 < (l0_5.length : Int) := td
                       obtain ⟨ad129, e129, hx129_0, hx129_1, hx129_2⟩ := at_T43 HR0_5.out x18_5 p129 q129
                       obtain rfl : ad127 = ad129 := (by injection e129)
                       replace hx129_0 := (HB.out.cell (World.block_lt_of_cell? w _ hx129_0)).trans hx129_0
                       replace hx129_1 := (HB.out.cell (World.block_lt_of_cell? w _ hx129_1)).trans hx129_1
                       replace hx129_2 := (HB.out.cell (World.block_lt_of_cell? w _ hx129_2)).trans hx129_2
                       replace p129 := eq_true p129
                       replace q129 := eq_true q129
                       have p130 : 0 ≤ (x18_5 : Int) := td
                       have q130 : x18_5 < (l0_5.length : Int) := td
                       obtain ⟨ad130, e130, hx130_0, hx130_1, hx130_2⟩ := at_T43 HR0_5.out x18_5 p130 q130
                       obtain rfl : ad127 = ad130 := (by injection e130)
                       replace hx130_0 := (HB.out.cell (World.block_lt_of_cell? w _ hx130_0)).trans hx130_0
                       replace hx130_1 := (HB.out.cell (World.block_lt_of_cell? w _ hx130_1)).trans hx130_1
                       replace hx130_2 := (HB.out.cell (World.block_lt_of_cell? w _ hx130_2)).trans hx130_2
                       replace p130 := eq_true p130
                       replace q130 := eq_true q130
                       go_wp2
                       go_roundg k5
                       case measure => have := HJ3.out; have := HK2.out; have := HJ33.out; have := HK4.out; have := HK5.out; omega
                       case rel => exact ⟨((true != t124)), (wrap64 (x18_5 + 1)), ts, ts, H', ⟨by have := HJ3.out; have := HK2.out; have := HJ33.out; have := HK4.out; have := HK5.out; omega⟩, ⟨tk HO_11.out⟩, ⟨tb BK101.out⟩, ⟨tb BK114.out⟩, ⟨tg2 HB.out GE101.out GE114.out⟩⟩
                      ·rw [if_neg c78] at H
                       have c78b0 : ((wrap64 ((rd_T43 l0_5 x18_5).f1)) == t125) = false := beq_eq_false_iff_ne.mpr c78
                       have c78b1 : ((wrap64 ((rd_T43 l0_5 x18_5).f1)) != t125) = true := bne_iff_ne.mpr c78
                       have H' := Aside0.mk H
                       clear H
                       have hnb81 := NB101_114.out
                       have hnc81 := NB114_101.out
                       obtain ⟨hcz82_0, hcz82_1, hcz82_2, hcz82_3, hcz82_4, hcz82_5, hfz82_0, hfz82_1, hfz82_2, hfz82_3, hfz82_4, hfz82_5⟩ := cq6 BK101.out
                       have p127 : 0 ≤ (x18_5 : Int) := td
                       have q127 : x18_5 < (l0_5.length : Int) := td
                       obtain ⟨ad127, e127, hx127_0, hx127_1, hx127_2⟩ := at_T43 HR0_5.out x18_5 p127 q127
                       cases e127
                       replace hx127_0 := (HB.out.cell (World.block_lt_of_cell? w _ hx127_0)).trans hx127_0
                       replace hx127_1 := (HB.out.cell (World.block_lt_of_cell? w _ hx127_1)).trans hx127_1
                       replace hx127_2 := (HB.out.cell (World.block_lt_of_cell? w _ hx127_2)).trans hx127_2
                       replace p127 := eq_true p127
                       replace q127 := eq_true q127
                       have p129 : 0 ≤ (x18_5 : Int) := td
                       have q129 : x18_5 < (l0_5.length : Int) := td
                       obtain ⟨ad129, e129, hx129_0, hx129_1, hx129_2⟩ := at_T43 HR0_5.out x18_5 p129 q129
                       obtain rfl : ad127 = ad129 := (by injection e129)
                       replace hx129_0 := (HB.out.cell (World.block_lt_of_cell? w _ hx129_0)).trans hx129_0
                       replace hx129_1 := (HB.out.cell (World.block_lt_of_cell? w _ hx129_1)).trans hx129_1
                       replace hx129_2 := (HB.out.cell (World.block_lt_of_cell? w _ hx129_2)).trans hx129_2
                       replace p129 := eq_true p129
                       replace q129 := eq_true q129
                       have p130 : 0 ≤ (x18_5 : Int) := td
                       have q130 : x18_5 < (l0_5.length : Int) := td
                       obtain ⟨ad130, e130, hx130_0, hx130_1, hx130_2⟩ := at_T43 HR0_5.out x18_5 p130 q130
                       obtain rfl : ad127 = ad130 := (by injection e130)
                       replace hx130_0 := (HB.out.cell (World.block_lt_of_cell? w _ hx130_0)).trans hx130_0
                       replace hx130_1 := (HB.out.cell (World.block_lt_of_cell? w _ hx130_1)).trans hx130_1
                       replace hx130_2 := (HB.out.cell (World.block_lt_of_cell? w _ hx130_2)).trans hx130_2
                       replace p130 := eq_true p130
                       replace q130 := eq_true q130
                       go_wp2
                       go_roundg k5
                       case measure => have := HJ3.out; have := HK2.out; have := HJ33.out; have := HK4.out; have := HK5.out; omega
                       case rel => exact ⟨(false), (wrap64 (x18_5 + 1)), ts, ts, H', ⟨by have := HJ3.out; have := HK2.out; have := HJ33.out; have := HK4.out; have := HK5.out; omega⟩, ⟨tk HO_11.out⟩, ⟨tb BK101.out⟩, ⟨tb BK114.out⟩, ⟨tg2 HB.out GE101.out GE114.out⟩⟩
                     ·replace c77 := Bool.eq_false_iff.mpr c77
                      subst c77
                      have H1 : (budwoodlaw16_LinkOnly.l2 k5 t116 x13_4 t124 t125 false false (wrap64 (x18_5 + 1)) a0_0 l0_1 l0_2 l0_3 l0_4 l0_5) = some r := by rw [if_neg (show ¬ (false = true) by decide)] at H; exact H
                      clear H
                      have H := H1
                      clear H1
                      have H' := Aside0.mk H
                      clear H
                      have hnb83 := NB101_114.out
                      have hnc83 := NB114_101.out
                      obtain ⟨hcz84_0, hcz84_1, hcz84_2, hcz84_3, hcz84_4, hcz84_5, hfz84_0, hfz84_1, hfz84_2, hfz84_3, hfz84_4, hfz84_5⟩ := cq6 BK101.out
                      have p127 : 0 ≤ (x18_5 : Int) := td
                      have q127 : x18_5 < (l0_5.length : Int) := td
                      obtain ⟨ad127, e127, hx127_0, hx127_1, hx127_2⟩ := at_T43 HR0_5.out x18_5 p127 q127
                      cases e127
                      replace hx127_0 := (HB.out.cell (World.block_lt_of_cell? w _ hx127_0)).trans hx127_0
                      replace hx127_1 := (HB.out.cell (World.block_lt_of_cell? w _ hx127_1)).trans hx127_1
                      replace hx127_2 := (HB.out.cell (World.block_lt_of_cell? w _ hx127_2)).trans hx127_2
                      replace p127 := eq_true p127
                      replace q127 := eq_true q127
                      have p129 : 0 ≤ (x18_5 : Int) := td
                      have q129 : x18_5 < (l0_5.length : Int) := td
                      obtain ⟨ad129, e129, hx129_0, hx129_1, hx129_2⟩ := at_T43 HR0_5.out x18_5 p129 q129
                      obtain rfl : ad127 = ad129 := (by injection e129)
                      replace hx129_0 := (HB.out.cell (World.block_lt_of_cell? w _ hx129_0)).trans hx129_0
                      replace hx129_1 := (HB.out.cell (World.block_lt_of_cell? w _ hx129_1)).trans hx129_1
                      replace hx129_2 := (HB.out.cell (World.block_lt_of_cell? w _ hx129_2)).trans hx129_2
                      replace p129 := eq_true p129
                      replace q129 := eq_true q129
                      go_wp2
                      go_roundg k5
                      case measure => have := HJ3.out; have := HK2.out; have := HJ33.out; have := HK4.out; have := HK5.out; omega
                      case rel => exact ⟨(false), (wrap64 (x18_5 + 1)), ts, ts, H', ⟨by have := HJ3.out; have := HK2.out; have := HJ33.out; have := HK4.out; have := HK5.out; omega⟩, ⟨tk HO_11.out⟩, ⟨tb BK101.out⟩, ⟨tb BK114.out⟩, ⟨tg2 HB.out GE101.out GE114.out⟩⟩
                   ·rw [if_neg c73] at H
                    have c73b0 : (((rd_T43 l0_5 x18_5).f0) == 5) = false := beq_eq_false_iff_ne.mpr c73
                    have c73b1 : (((rd_T43 l0_5 x18_5).f0) != 5) = true := bne_iff_ne.mpr c73
                    by_cases c85 : x17_5 = true
                    ·subst c85
                     have H1 : (budwoodlaw16_LinkOnly.l2 k5 t116 x13_4 t124 t125 t126 true (wrap64 (x18_5 + 1)) a0_0 l0_1 l0_2 l0_3 l0_4 l0_5) = some r := by rw [if_pos rfl] at H; exact H
                     clear H
                     have H := H1
                     clear H1
                     have H' := Aside0.mk H
                     clear H
                     have hnb86 := NB101_114.out
                     have hnc86 := NB114_101.out
                     obtain ⟨hcz87_0, hcz87_1, hcz87_2, hcz87_3, hcz87_4, hcz87_5, hfz87_0, hfz87_1, hfz87_2, hfz87_3, hfz87_4, hfz87_5⟩ := cq6 BK101.out
                     have p127 : 0 ≤ (x18_5 : Int) := td
                     have q127 : x18_5 < (l0_5.length : Int) := td
                     obtain ⟨ad127, e127, hx127_0, hx127_1, hx127_2⟩ := at_T43 HR0_5.out x18_5 p127 q127
                     cases e127
                     replace hx127_0 := (HB.out.cell (World.block_lt_of_cell? w _ hx127_0)).trans hx127_0
                     replace hx127_1 := (HB.out.cell (World.block_lt_of_cell? w _ hx127_1)).trans hx127_1
                     replace hx127_2 := (HB.out.cell (World.block_lt_of_cell? w _ hx127_2)).trans hx127_2
                     replace p127 := eq_true p127
                     replace q127 := eq_true q127
                     have p129 : 0 ≤ (x18_5 : Int) := td
                     have q129 : x18_5 < (l0_5.length : Int) := td
                     obtain ⟨ad129, e129, hx129_0, hx129_1, hx129_2⟩ := at_T43 HR0_5.out x18_5 p129 q129
                     obtain rfl : ad127 = ad129 := (by injection e129)
                     replace hx129_0 := (HB.out.cell (World.block_lt_of_cell? w _ hx129_0)).trans hx129_0
                     replace hx129_1 := (HB.out.cell (World.block_lt_of_cell? w _ hx129_1)).trans hx129_1
                     replace hx129_2 := (HB.out.cell (World.block_lt_of_cell? w _ hx129_2)).trans hx129_2
                     replace p129 := eq_true p129
                     replace q129 := eq_true q129
                     have p131 : 0 ≤ (x18_5 : Int) := td
                     have q131 : x18_5 < (l0_5.length : Int) := td
                     obtain ⟨ad131, e131, hx131_0, hx131_1, hx131_2⟩ := at_T43 HR0_5.out x18_5 p131 q131
                     obtain rfl : ad127 = ad131 := (by injection e131)
                     replace hx131_0 := (HB.out.cell (World.block_lt_of_cell? w _ hx131_0)).trans hx131_0
                     replace hx131_1 := (HB.out.cell (World.block_lt_of_cell? w _ hx131_1)).trans hx131_1
                     replace hx131_2 := (HB.out.cell (World.block_lt_of_cell? w _ hx131_2)).trans hx131_2
                     replace p131 := eq_true p131
                     replace q131 := eq_true q131
                     go_wp2
                     go_roundg k5
                     case measure => have := HJ3.out; have := HK2.out; have := HJ33.out; have := HK4.out; have := HK5.out; omega
                     case rel => exact ⟨(true), (wrap64 (x18_5 + 1)), ts, ts, H', ⟨by have := HJ3.out; have := HK2.out; have := HJ33.out; have := HK4.out; have := HK5.out; omega⟩, ⟨tk HO_11.out⟩, ⟨tb BK101.out⟩, ⟨tb BK114.out⟩, ⟨tg2 HB.out GE101.out GE114.out⟩⟩
                    ·replace c85 := Bool.eq_false_iff.mpr c85
                     subst c85
                     have H1 : (if t126 = true then (if (wrap64 ((rd_T43 l0_5 x18_5).f1)) = t125 then (budwoodlaw16_LinkOnly.l2 k5 t116 x13_4 t124 t125 t126 ((((rd_T43 l0_5 x18_5).f0) == 6) != t124) (wrap64 (x18_5 + 1)) a0_0 l0_1 l0_2 l0_3 l0_4 l0_5) else (budwoodlaw16_LinkOnly.l2 k5 t116 x13_4 t124 t125 t126 false (wrap64 (x18_5 + 1)) a0_0 l0_1 l0_2 l0_3 l0_4 l0_5)) else (budwoodlaw16_LinkOnly.l2 k5 t116 x13_4 t124 t125 t126 false (wrap64 (x18_5 + 1)) a0_0 l0_1 l0_2 l0_3 l0_4 l0_5)) = some r := by rw [if_neg (show ¬ (false = true) by decide)] at H; exact H
                     clear H
                     have H := H1
                     clear H1
                     by_cases c88 : t126 = true
                     ·subst c88
                      have H1 : (if (wrap64 ((rd_T43 l0_5 x18_5).f1)) = t125 then (budwoodlaw16_LinkOnly.l2 k5 t116 x13_4 t124 t125 true ((((rd_T43 l0_5 x18_5).f0) == 6) != t124) (wrap64 (x18_5 + 1)) a0_0 l0_1 l0_2 l0_3 l0_4 l0_5) else (budwoodlaw16_LinkOnly.l2 k5 t116 x13_4 t124 t125 true false (wrap64 (x18_5 + 1)) a0_0 l0_1 l0_2 l0_3 l0_4 l0_5)) = some r := by rw [if_pos rfl] at H; exact H
                      clear H
                      have H := H1
                      clear H1
                      by_cases c89 : (wrap64 ((rd_T43 l0_5 x18_5).f1)) = t125
                      ·rw [if_pos c89] at H
                       have c89b0 : ((wrap64 ((rd_T43 l0_5 x18_5).f1)) == t125) = true := beq_iff_eq.mpr c89
                       have c89b1 : ((wrap64 ((rd_T43 l0_5 x18_5).f1)) != t125) = false := bne_eq_false_iff_eq.mpr c89
                       clear c89
                       have H' := Aside0.mk H
                       clear H
                       have hnb90 := NB101_114.out
                       have hnc90 := NB114_101.out
                       obtain ⟨hcz91_0, hcz91_1, hcz91_2, hcz91_3, hcz91_4, hcz91_5, hfz91_0, hfz91_1, hfz91_2, hfz91_3, hfz91_4, hfz91_5⟩ := cq6 BK101.out
                       have p127 : 0 ≤ (x18_5 : Int) := td
                       have q127 : x18_5 < (l0_5.length : Int) := td
                       obtain ⟨ad127, e127, hx127_0, hx127_1, hx127_2⟩ := at_T43 HR0_5.out x18_5 p127 q127
                       cases e127
                       replace hx127_0 := (HB.out.cell (World.block_lt_of_cell? w _ hx127_0)).trans hx127_0
                       replace hx127_1 := (HB.out.cell (World.block_lt_of_cell? w _ hx127_1)).trans hx127_1
                       replace hx127_2 := (HB.out.cell (World.block_lt_of_cell? w _ hx127_2)).trans hx127_2
                       replace p127 := eq_true p127
                       replace q127 := eq_true q127
                       have p129 : 0 ≤ (x18_5 : Int) := td
                       have q129 : x18_5 < (l0_5.length : Int) := td
                       obtain ⟨ad129, e129, hx129_0, hx129_1, hx129_2⟩ := at_T43 HR0_5.out x18_5 p129 q129
                       obtain rfl : ad127 = ad129 := (by injection e129)
                       replace hx129_0 := (HB.out.cell (World.block_lt_of_cell? w _ hx129_0)).trans hx129_0
                       replace hx129_1 := (HB.out.cell (World.block_lt_of_cell? w _ hx129_1)).trans hx129_1
                       replace hx129_2 := (HB.out.cell (World.block_lt_of_cell? w _ hx129_2)).trans hx129_2
                       replace p129 := eq_true p129
                       replace q129 := eq_true q129
                       have p131 : 0 ≤ (x18_5 : Int) := td
                       have q131 : x18_5 < (l0_5.length : Int) := td
                       obtain ⟨ad131, e131, hx131_0, hx131_1, hx131_2⟩ := at_T43 HR0_5.out x18_5 p131 q131
                       obtain rfl : ad127 = ad131 := (by injection e131)
                       replace hx131_0 := (HB.out.cell (World.block_lt_of_cell? w _ hx131_0)).trans hx131_0
                       replace hx131_1 := (HB.out.cell (World.block_lt_of_cell? w _ hx131_1)).trans hx131_1
                       replace hx131_2 := (HB.out.cell (World.block_lt_of_cell? w _ hx131_2)).trans hx131_2
                       replace p131 := eq_true p131
                       replace q131 := eq_true q131
                       have p132 : 0 ≤ (x18_5 : Int) := td
                       have q132 : x18_5 < (l0_5.length : Int) := td
                       obtain ⟨ad132, e132, hx132_0, hx132_1, hx132_2⟩ := at_T43 HR0_5.out x18_5 p132 q132
                       obtain rfl : ad127 = ad132 := (by injection e132)
                       replace hx132_0 := (HB.out.cell (World.block_lt_of_cell? w _ hx132_0)).trans hx132_0
                       replace hx132_1 := (HB.out.cell (World.block_lt_of_cell? w _ hx132_1)).trans hx132_1
                       replace hx132_2 := (HB.out.cell (World.block_lt_of_cell? w _ hx132_2)).trans hx132_2
                       replace p132 := eq_true p132
                       replace q132 := eq_true q132
                       go_wp2
                       go_roundg k5
                       case measure => have := HJ3.out; have := HK2.out; have := HJ33.out; have := HK4.out; have := HK5.out; omega
                       case rel => exact ⟨(((((rd_T43 l0_5 x18_5).f0) == 6) != t124)), (wrap64 (x18_5 + 1)), ts, ts, H', ⟨by have := HJ3.out; have := HK2.out; have := HJ33.out; have := HK4.out; have := HK5.out; omega⟩, ⟨tk HO_11.out⟩, ⟨tb BK101.out⟩, ⟨tb BK114.out⟩, ⟨tg2 HB.out GE101.out GE114.out⟩⟩
                      ·rw [if_neg c89] at H
                       have c89b0 : ((wrap64 ((rd_T43 l0_5 x18_5).f1)) == t125) = false := beq_eq_false_iff_ne.mpr c89
                       have c89b1 : ((wrap64 ((rd_T43 l0_5 x18_5).f1)) != t125) = true := bne_iff_ne.mpr c89
                       have H' := Aside0.mk H
                       clear H
                       have hnb92 := NB101_114.out
                       have hnc92 := NB114_101.out
                       obtain ⟨hcz93_0, hcz93_1, hcz93_2, hcz93_3, hcz93_4, hcz93_5, hfz93_0, hfz93_1, hfz93_2, hfz93_3, hfz93_4, hfz93_5⟩ := cq6 BK101.out
                       have p127 : 0 ≤ (x18_5 : Int) := td
                       have q127 : x18_5 < (l0_5.length : Int) := td
                       obtain ⟨ad127, e127, hx127_0, hx127_1, hx127_2⟩ := at_T43 HR0_5.out x18_5 p127 q127
                       cases e127
                       replace hx127_0 := (HB.out.cell (World.block_lt_of_cell? w _ hx127_0)).trans hx127_0
                       replace hx127_1 := (HB.out.cell (World.block_lt_of_cell? w _ hx127_1)).trans hx127_1
                       replace hx127_2 := (HB.out.cell (World.block_lt_of_cell? w _ hx127_2)).trans hx127_2
                       replace p127 := eq_true p127
                       replace q127 := eq_true q127
                       have p129 : 0 ≤ (x18_5 : Int) := td
                       have q129 : x18_5 < (l0_5.length : Int) := td
                       obtain ⟨ad129, e129, hx129_0, hx129_1, hx129_2⟩ := at_T43 HR0_5.out x18_5 p129 q129
                       obtain rfl : ad127 = ad129 := (by injection e129)
                       replace hx129_0 := (HB.out.cell (World.block_lt_of_cell? w _ hx129_0)).trans hx129_0
                       replace hx129_1 := (HB.out.cell (World.block_lt_of_cell? w _ hx129_1)).trans hx129_1
                       replace hx129_2 := (HB.out.cell (World.block_lt_of_cell? w _ hx129_2)).trans hx129_2
                       replace p129 := eq_true p129
                       replace q129 := eq_true q129
                       have p131 : 0 ≤ (x18_5 : Int) := td
                       have q131 : x18_5 < (l0_5.length : Int) := td
                       obtain ⟨ad131, e131, hx131_0, hx131_1, hx131_2⟩ := at_T43 HR0_5.out x18_5 p131 q131
                       obtain rfl : ad127 = ad131 := (by injection e131)
                       replace hx131_0 := (HB.out.cell (World.block_lt_of_cell? w _ hx131_0)).trans hx131_0
                       replace hx131_1 := (HB.out.cell (World.block_lt_of_cell? w _ hx131_1)).trans hx131_1
                       replace hx131_2 := (HB.out.cell (World.block_lt_of_cell? w _ hx131_2)).trans hx131_2
                       replace p131 := eq_true p131
                       replace q131 := eq_true q131
                       have p132 : 0 ≤ (x18_5 : Int) := td
                       have q132 : x18_5 < (l0_5.length : Int) := td
                       obtain ⟨ad132, e132, hx132_0, hx132_1, hx132_2⟩ := at_T43 HR0_5.out x18_5 p132 q132
                       obtain rfl : ad127 = ad132 := (by injection e132)
                       replace hx132_0 := (HB.out.cell (World.block_lt_of_cell? w _ hx132_0)).trans hx132_0
                       replace hx132_1 := (HB.out.cell (World.block_lt_of_cell? w _ hx132_1)).trans hx132_1
                       replace hx132_2 := (HB.out.cell (World.block_lt_of_cell? w _ hx132_2)).trans hx132_2
                       replace p132 := eq_true p132
                       replace q132 := eq_true q132
                       go_wp2
                       go_roundg k5
                       case measure => have := HJ3.out; have := HK2.out; have := HJ33.out; have := HK4.out; have := HK5.out; omega
                       case rel => exact ⟨(false), (wrap64 (x18_5 + 1)), ts, ts, H', ⟨by have := HJ3.out; have := HK2.out; have := HJ33.out; have := HK4.out; have := HK5.out; omega⟩, ⟨tk HO_11.out⟩, ⟨tb BK101.out⟩, ⟨tb BK114.out⟩, ⟨tg2 HB.out GE101.out GE114.out⟩⟩
                     ·replace c88 := Bool.eq_false_iff.mpr c88
                      subst c88
                      have H1 : (budwoodlaw16_LinkOnly.l2 k5 t116 x13_4 t124 t125 false false (wrap64 (x18_5 + 1)) a0_0 l0_1 l0_2 l0_3 l0_4 l0_5) = some r := by rw [if_neg (show ¬ (false = true) by decide)] at H; exact H
                      clear H
                      have H := H1
                      clear H1
                      have H' := Aside0.mk H
                      clear H
                      have hnb94 := NB101_114.out
                      have hnc94 := NB114_101.out
                      obtain ⟨hcz95_0, hcz95_1, hcz95_2, hcz95_3, hcz95_4, hcz95_5, hfz95_0, hfz95_1, hfz95_2, hfz95_3, hfz95_4, hfz95_5⟩ := cq6 BK101.out
                      have p127 : 0 ≤ (x18_5 : Int) := td
                      have q127 : x18_5 < (l0_5.length : Int) := td
                      obtain ⟨ad127, e127, hx127_0, hx127_1, hx127_2⟩ := at_T43 HR0_5.out x18_5 p127 q127
                      cases e127
                      replace hx127_0 := (HB.out.cell (World.block_lt_of_cell? w _ hx127_0)).trans hx127_0
                      replace hx127_1 := (HB.out.cell (World.block_lt_of_cell? w _ hx127_1)).trans hx127_1
                      replace hx127_2 := (HB.out.cell (World.block_lt_of_cell? w _ hx127_2)).trans hx127_2
                      replace p127 := eq_true p127
                      replace q127 := eq_true q127
                      have p129 : 0 ≤ (x18_5 : Int) := td
                      have q129 : x18_5 < (l0_5.length : Int) := td
                      obtain ⟨ad129, e129, hx129_0, hx129_1, hx129_2⟩ := at_T43 HR0_5.out x18_5 p129 q129
                      obtain rfl : ad127 = ad129 := (by injection e129)
                      replace hx129_0 := (HB.out.cell (World.block_lt_of_cell? w _ hx129_0)).trans hx129_0
                      replace hx129_1 := (HB.out.cell (World.block_lt_of_cell? w _ hx129_1)).trans hx129_1
                      replace hx129_2 := (HB.out.cell (World.block_lt_of_cell? w _ hx129_2)).trans hx129_2
                      replace p129 := eq_true p129
                      replace q129 := eq_true q129
                      have p131 : 0 ≤ (x18_5 : Int) := td
                      have q131 : x18_5 < (l0_5.length : Int) := td
                      obtain ⟨ad131, e131, hx131_0, hx131_1, hx131_2⟩ := at_T43 HR0_5.out x18_5 p131 q131
                      obtain rfl : ad127 = ad131 := (by injection e131)
                      replace hx131_0 := (HB.out.cell (World.block_lt_of_cell? w _ hx131_0)).trans hx131_0
                      replace hx131_1 := (HB.out.cell (World.block_lt_of_cell? w _ hx131_1)).trans hx131_1
                      replace hx131_2 := (HB.out.cell (World.block_lt_of_cell? w _ hx131_2)).trans hx131_2
                      replace p131 := eq_true p131
                      replace q131 := eq_true q131
                      go_wp2
                      go_roundg k5
                      case measure => have := HJ3.out; have := HK2.out; have := HJ33.out; have := HK4.out; have := HK5.out; omega
                      case rel => exact ⟨(false), (wrap64 (x18_5 + 1)), ts, ts, H', ⟨by have := HJ3.out; have := HK2.out; have := HJ33.out; have := HK4.out; have := HK5.out; omega⟩, ⟨tk HO_11.out⟩, ⟨tb BK101.out⟩, ⟨tb BK114.out⟩, ⟨tg2 HB.out GE101.out GE114.out⟩⟩
                 ·rw [if_neg c60] at H
                  exact absurd H (by simp)
                ·rw [if_neg c59] at H
                 have c59b0 : decide (x18_5 < (l0_5.length : Int)) = false := decide_eq_false c59
                 clear c59
                 by_cases c96 : x17_5 = true
                 ·subst c96
                  have H1 : (budwoodlaw16_LinkOnly.l1 k5 t116 (wrap64 (x13_4 + 1)) a0_0 l0_1 l0_2 l0_3 l0_4 l0_5) = some r := by rw [if_pos rfl] at H; exact H
                  clear H
                  have H := H1
                  clear H1
                  have H' := Aside0.mk H
                  clear H
                  have hnb97 := NB101_114.out
                  have hnc97 := NB114_101.out
                  obtain ⟨hcz98_0, hcz98_1, hcz98_2, hcz98_3, hcz98_4, hcz98_5, hfz98_0, hfz98_1, hfz98_2, hfz98_3, hfz98_4, hfz98_5⟩ := cq6 BK101.out
                  try go_wp2
                  replace HO_11 := Aside0.mk (Kd.R_drew HO_11.out)
                  replace BK101 := Aside0.mk (blk_drew BK101.out)
                  replace BK114 := Aside0.mk (blk_drew BK114.out)
                  replace HB := Aside0.mk (below_drew1 HB.out)
                  refine start_ (n := 12) (S := fun w' => True) (ds := []) #[false, false, false, false, false, false, false, false, false, false, false, false] (by kernel_rfl) rfl rfl trivial (fun hHeld => ?_); refine with_tabW budwoodlaw16_LinkOnly.tab24 budwoodlaw16_LinkOnly.bits24 (fun HT_ HW_ => ?_)
                  generalize wr.drew = w99 at HO_11 BK101 BK114 HB hHeld ⊢
                  refine pure_ (i := 0) (N := some 146) (v := ?_) (a' := ?_) #[true, false, false, false, false, false, false, false, false, false, false, false] rfl rfl (any_of HT_.out (by kernel_rfl)) (fun _ _ _ h => h) (Or.inl ⟨by rfl, ?_⟩) ?_ ?_
                  rotate_left
                  ·intro w'
                   go_simp
                   with_reducible rfl
                  rotate_left
                  ·simp only [Act.put, List.setIfInBounds_toArray, List.set_cons_zero, List.set_cons_succ, i64_w, i32_w]
                   rfl
                  refine pure_ (i := 1) (N := some 147) (v := ?_) (a' := ?_) #[true, true, false, false, false, false, false, false, false, false, false, false] rfl rfl (any_of HT_.out (by kernel_rfl)) (fun _ _ _ h => h) (Or.inl ⟨by rfl, ?_⟩) ?_ ?_
                  rotate_left
                  ·intro w'
                   go_simp
                   with_reducible rfl
                  rotate_left
                  ·simp only [Act.put, List.setIfInBounds_toArray, List.set_cons_zero, List.set_cons_succ, i64_w, i32_w]
                   rfl
                  refine pure_ (i := 2) (N := some 148) (v := ?_) (a' := ?_) #[true, true, true, false, false, false, false, false, false, false, false, false] rfl rfl (any_of HT_.out (by kernel_rfl)) (fun _ _ _ h => h) (Or.inl ⟨by rfl, ?_⟩) ?_ ?_
                  rotate_left
                  ·intro w'
                   go_simp
                   with_reducible rfl
                  rotate_left
                  ·simp only [Act.put, List.setIfInBounds_toArray, List.set_cons_zero, List.set_cons_succ, i64_w, i32_w]
                   rfl
                  refine pure_ (i := 3) (N := some 149) (v := undef) (a' := ?_) #[true, true, true, true, false, false, false, false, false, false, false, false] rfl rfl (any_of HT_.out (by kernel_rfl)) (fun _ _ _ h => h) (Or.inr ⟨by rfl, rfl⟩) ?_ ?_
                  rotate_left
                  ·simp only [Act.put, List.setIfInBounds_toArray, List.set_cons_zero, List.set_cons_succ, i64_w, i32_w]
                   rfl
                  refine pure_ (i := 4) (N := some 150) (v := undef) (a' := ?_) #[true, true, true, true, true, false, false, false, false, false, false, false] rfl rfl (any_of HT_.out (by kernel_rfl)) (fun _ _ _ h => h) (Or.inr ⟨by rfl, rfl⟩) ?_ ?_
                  rotate_left
                  ·simp only [Act.put, List.setIfInBounds_toArray, List.set_cons_zero, List.set_cons_succ, i64_w, i32_w]
                   rfl
                  refine pure_ (i := 5) (N := some 151) (v := undef) (a' := ?_) #[true, true, true, true, true, true, false, false, false, false, false, false] rfl rfl (any_of HT_.out (by kernel_rfl)) (fun _ _ _ h => h) (Or.inr ⟨by rfl, rfl⟩) ?_ ?_
                  rotate_left
                  ·simp only [Act.put, List.setIfInBounds_toArray, List.set_cons_zero, List.set_cons_succ, i64_w, i32_w]
                   rfl
                  refine pure_ (i := 6) (N := some 152) (v := undef) (a' := ?_) #[true, true, true, true, true, true, true, false, false, false, false, false] rfl rfl (any_of HT_.out (by kernel_rfl)) (fun _ _ _ h => h) (Or.inr ⟨by rfl, rfl⟩) ?_ ?_
                  rotate_left
                  ·simp only [Act.put, List.setIfInBounds_toArray, List.set_cons_zero, List.set_cons_succ, i64_w, i32_w]
                   rfl
                  refine pure_ (i := 7) (N := some 153) (v := undef) (a' := ?_) #[true, true, true, true, true, true, true, true, false, false, false, false] rfl rfl (any_of HT_.out (by kernel_rfl)) (fun _ _ _ h => h) (Or.inr ⟨by rfl, rfl⟩) ?_ ?_
                  rotate_left
                  ·simp only [Act.put, List.setIfInBounds_toArray, List.set_cons_zero, List.set_cons_succ, i64_w, i32_w]
                   rfl
                  refine pure_ (i := 8) (N := some 154) (v := undef) (a' := ?_) #[true, true, true, true, true, true, true, true, true, false, false, false] rfl rfl (any_of HT_.out (by kernel_rfl)) (fun _ _ _ h => h) (Or.inr ⟨by rfl, rfl⟩) ?_ ?_
                  rotate_left
                  ·simp only [Act.put, List.setIfInBounds_toArray, List.set_cons_zero, List.set_cons_succ, i64_w, i32_w]
                   rfl
                  refine pure_ (i := 9) (N := some 155) (v := undef) (a' := ?_) #[true, true, true, true, true, true, true, true, true, true, false, false] rfl rfl (any_of HT_.out (by kernel_rfl)) (fun _ _ _ h => h) (Or.inr ⟨by rfl, rfl⟩) ?_ ?_
                  rotate_left
                  ·simp only [Act.put, List.setIfInBounds_toArray, List.set_cons_zero, List.set_cons_succ, i64_w, i32_w]
                   rfl
                  refine pure_ (i := 10) (N := some 156) (v := undef) (a' := ?_) #[true, true, true, true, true, true, true, true, true, true, true, false] rfl rfl (any_of HT_.out (by kernel_rfl)) (fun _ _ _ h => h) (Or.inr ⟨by rfl, rfl⟩) ?_ ?_
                  rotate_left
                  ·simp only [Act.put, List.setIfInBounds_toArray, List.set_cons_zero, List.set_cons_succ, i64_w, i32_w]
                   rfl
                  refine pure_ (i := 11) (N := some 157) (v := ?_) (a' := ?_) #[true, true, true, true, true, true, true, true, true, true, true, true] rfl rfl (any_of HT_.out (by kernel_rfl)) (fun _ _ _ h => h) (Or.inl ⟨by rfl, ?_⟩) ?_ ?_
                  rotate_left
                  ·intro w'
                   go_simp
                   with_reducible rfl
                  rotate_left
                  ·simp only [Act.put, List.setIfInBounds_toArray, List.set_cons_zero, List.set_cons_succ, i64_w, i32_w]
                   rfl
                  refine done_ (done_of HT_.out (by kernel_rfl)) ?_
                  try go_wp2
                  go_roundg k5
                  case measure => have := HJ3.out; have := HK2.out; have := HJ33.out; have := HK4.out; have := HK5.out; omega
                  case rel => exact ⟨(wrap64 (x13_4 + 1)), ts, H', ⟨by have := HJ3.out; have := HK2.out; have := HJ33.out; have := HK4.out; have := HK5.out; omega⟩, ⟨tk HO_11.out⟩, ⟨tb BK101.out⟩, ⟨tb BK114.out⟩, ⟨tg2 HB.out GE101.out GE114.out⟩⟩
                 ·replace c96 := Bool.eq_false_iff.mpr c96
                  subst c96
                  have H1 : (if 0 ≤ x13_4 then (if x13_4 < (t116.length : Int) then ((layout_Raw.f a0_0 l0_1 l0_2 l0_3 l0_4 l0_5 x13_4).bind fun t134 => (if (rd t116 x13_4) = t134 then (budwoodlaw16_LinkOnly.l1 k5 t116 (wrap64 (x13_4 + 1)) a0_0 l0_1 l0_2 l0_3 l0_4 l0_5) else (some false))) else (none)) else (none)) = some r := by rw [if_neg (show ¬ (false = true) by decide)] at H; exact H
                  clear H
                  have H := H1
                  clear H1
                  by_cases c100 : 0 ≤ x13_4
                  ·rw [if_pos c100] at H
                   have c100b0 : decide (0 ≤ x13_4) = true := decide_eq_true c100
                   clear c100
                   by_cases c101 : x13_4 < (t116.length : Int)
                   ·rw [if_pos c101] at H
                    have c101b0 : decide (x13_4 < (t116.length : Int)) = true := decide_eq_true c101
                    clear c101
                    replace H := Option.bind_eq_some_iff.mp H
                    obtain ⟨t134, A1020, H⟩ := H
                    replace H : (if (rd t116 x13_4) = t134 then (budwoodlaw16_LinkOnly.l1 k5 t116 (wrap64 (x13_4 + 1)) a0_0 l0_1 l0_2 l0_3 l0_4 l0_5) else (some false)) = some r := H
                    have A102 := Aside0.mk A1020
                    clear A1020
                    by_cases c103 : (rd t116 x13_4) = t134
                    ·rw [if_pos c103] at H
                     have c103b0 : ((rd t116 x13_4) == t134) = true := beq_iff_eq.mpr c103
                     have c103b1 : ((rd t116 x13_4) != t134) = false := bne_eq_false_iff_eq.mpr c103
                     clear c103
                     have H' := Aside0.mk H
                     clear H
                     have hnb104 := NB101_114.out
                     have hnc104 := NB114_101.out
                     obtain ⟨hcz105_0, hcz105_1, hcz105_2, hcz105_3, hcz105_4, hcz105_5, hfz105_0, hfz105_1, hfz105_2, hfz105_3, hfz105_4, hfz105_5⟩ := cq6 BK101.out
                     try go_wp2
                     replace HO_11 := Aside0.mk (Kd.R_drew HO_11.out)
                     replace BK101 := Aside0.mk (blk_drew BK101.out)
                     replace BK114 := Aside0.mk (blk_drew BK114.out)
                     replace HB := Aside0.mk (below_drew1 HB.out)
                     have p133 : 0 ≤ (x13_4 : Int) := td
                     have q133 : x13_4 < (t116.length : Int) := td
                     obtain ⟨ad133, e133, hx133_0⟩ := Kd.at_int (Kd.R_reads' HO_11.out).2.2 x13_4 p133 q133
                     cases e133
                     replace p133 := eq_true p133
                     replace q133 := eq_true q133
                     refine start_ (n := 12) (S := fun w' => w'.cell? ⟨gb101, 0, none⟩ = some (.string a0_0) ∧ w'.cell? ⟨gb101, 1, none⟩ = some (.slice A0_1 l0_1.length c0_1) ∧ w'.cell? ⟨gb101, 2, none⟩ = some (.slice A0_2 l0_2.length c0_2) ∧ w'.cell? ⟨gb101, 3, none⟩ = some (.slice A0_3 l0_3.length c0_3) ∧ w'.cell? ⟨gb101, 4, none⟩ = some (.slice A0_4 l0_4.length c0_4) ∧ w'.cell? ⟨gb101, 5, none⟩ = some (.slice A0_5 l0_5.length c0_5) ∧ w'.cell? (ad133.add (x13_4).toNat) = some (.int .u32 (rd t116 x13_4))) (ds := []) #[false, false, false, false, false, false, false, false, false, false, false, false] (by kernel_rfl) rfl rfl ⟨(blk_cell BK101.out 0).trans rfl, (blk_cell BK101.out 1).trans rfl, (blk_cell BK101.out 2).trans rfl, (blk_cell BK101.out 3).trans rfl, (blk_cell BK101.out 4).trans rfl, (blk_cell BK101.out 5).trans rfl, hx133_0⟩ (fun hHeld => ?_); refine with_tabW budwoodlaw16_LinkOnly.tab24 budwoodlaw16_LinkOnly.bits24 (fun HT_ HW_ => ?_)
                     generalize wr.drew = w106 at HO_11 BK101 BK114 HB hx133_0 hHeld ⊢
                     refine pure_ (i := 0) (N := some 146) (v := ?_) (a' := ?_) #[true, false, false, false, false, false, false, false, false, false, false, false] rfl rfl (any_of HT_.out (by kernel_rfl)) (fun _ _ _ h => h) (Or.inl ⟨by rfl, ?_⟩) ?_ ?_
                     rotate_left
                     ·intro w'
                      go_simp
                      with_reducible rfl
                     rotate_left
                     ·simp only [Act.put, List.setIfInBounds_toArray, List.set_cons_zero, List.set_cons_succ, i64_w, i32_w]
                      rfl
                     refine pure_ (i := 1) (N := some 147) (v := ?_) (a' := ?_) #[true, true, false, false, false, false, false, false, false, false, false, false] rfl rfl (any_of HT_.out (by kernel_rfl)) (fun _ _ _ h => h) (Or.inl ⟨by rfl, ?_⟩) ?_ ?_
                     rotate_left
                     ·intro w'
                      go_simp
                      with_reducible rfl
                     rotate_left
                     ·simp only [Act.put, List.setIfInBounds_toArray, List.set_cons_zero, List.set_cons_succ, i64_w, i32_w]
                      rfl
                     refine pure_ (i := 2) (N := some 148) (v := ?_) (a' := ?_) #[true, true, true, false, false, false, false, false, false, false, false, false] rfl rfl (any_of HT_.out (by kernel_rfl)) (fun _ _ _ h => h) (Or.inl ⟨by rfl, ?_⟩) ?_ ?_
                     rotate_left
                     ·intro w'
                      go_simp
                      with_reducible rfl
                     rotate_left
                     ·simp only [Act.put, List.setIfInBounds_toArray, List.set_cons_zero, List.set_cons_succ, i64_w, i32_w]
                      rfl
                     refine pure_ (i := 3) (N := some 149) (v := ?_) (a' := ?_) #[true, true, true, true, false, false, false, false, false, false, false, false] rfl rfl (any_of HT_.out (by kernel_rfl)) (fun _ _ _ h => h) (Or.inl ⟨by rfl, ?_⟩) ?_ ?_
                     rotate_left
                     ·intro w'
                      go_simp
                      with_reducible rfl
                     rotate_left
                     ·simp only [Act.put, List.setIfInBounds_toArray, List.set_cons_zero, List.set_cons_succ, i64_w, i32_w]
                      rfl
                     refine pure_ (i := 4) (N := some 150) (v := ?_) (a' := ?_) #[true, true, true, true, true, false, false, false, false, false, false, false] rfl rfl (any_of HT_.out (by kernel_rfl)) (fun _ _ _ h => h) (Or.inl ⟨by rfl, ?_⟩) ?_ ?_
                     rotate_left
                     ·intro w'
                      go_simp
                      with_reducible rfl
                     rotate_left
                     ·simp only [Act.put, List.setIfInBounds_toArray, List.set_cons_zero, List.set_cons_succ, i64_w, i32_w]
                      rfl
                     refine pure_ (i := 5) (N := some 151) (v := ?_) (a' := ?_) #[true, true, true, true, true, true, false, false, false, false, false, false] rfl rfl (any_of HT_.out (by kernel_rfl)) (fun _ _ _ h => h) (Or.inl ⟨by rfl, ?_⟩) ?_ ?_
                     rotate_left
                     ·intro w'
                      go_simp
                      with_reducible rfl
                     rotate_left
                     ·simp only [Act.put, List.setIfInBounds_toArray, List.set_cons_zero, List.set_cons_succ, i64_w, i32_w]
                      rfl
                     refine pure_ (i := 8) (N := some 154) (v := ?_) (a' := ?_) #[true, true, true, true, true, true, false, false, true, false, false, false] rfl rfl (any_of HT_.out (by kernel_rfl)) (fun _ _ _ h => h) (Or.inl ⟨by rfl, ?_⟩) ?_ ?_
                     rotate_left
                     ·intro w'
                      go_simp
                      with_reducible rfl
                     rotate_left
                     ·simp only [Act.put, List.setIfInBounds_toArray, List.set_cons_zero, List.set_cons_succ, i64_w, i32_w]
                      rfl
                     refine take_ (i := 6) (N := some 152) (v := ?_) (a' := ?_) #[true, true, true, true, true, true, true, false, true, false, false, false] rfl rfl (take_ofW HT_.out HW_.out (by kernel_rfl)) (fun _ _ _ h => h) (Or.inl ⟨by rfl, ?_⟩) hHeld ?_ ?_
                     rotate_left
                     ·rintro w' ⟨s0, s1, s2, s3, s4, s5, s6⟩
                      go_simp
                      with_reducible rfl
                     rotate_left
                     ·simp only [Act.put, List.setIfInBounds_toArray, List.set_cons_zero, List.set_cons_succ, i64_w, i32_w]
                      rfl
                     refine take_ (i := 7) (N := some 153) (v := ?_) (a' := ?_) #[true, true, true, true, true, true, true, true, true, false, false, false] rfl rfl (take_ofW HT_.out HW_.out (by kernel_rfl)) (fun _ _ _ h => h) (Or.inl ⟨by rfl, ?_⟩) hHeld ?_ ?_
                     rotate_left
                     ·rintro w' ⟨s0, s1, s2, s3, s4, s5, s6⟩
                      go_simp
                      with_reducible rfl
                     rotate_left
                     ·simp only [Act.put, List.setIfInBounds_toArray, List.set_cons_zero, List.set_cons_succ, i64_w, i32_w]
                      rfl
                     refine one_ (i := 9) (N := some 155) #[true, true, true, true, true, true, true, true, true, true, false, false] rfl rfl (one_of HT_.out (by kernel_rfl)) (by decide) (fun K hK => ?_)
                     refine goes_ Tryd.func36 (by kernel_rfl) rfl #[.agg #[.string a0_0, .slice A0_1 l0_1.length c0_1, .slice A0_2 l0_2.length c0_2, .slice A0_3 l0_3.length c0_3, .slice A0_4 l0_4.length c0_4, .slice A0_5 l0_5.length c0_5], .int .i64 x13_4] (by rfl) rfl rfl tm ?_
                     with_reducible refine (layout_Raw.calls a0_0 _ _ l0_1 _ _ l0_2 _ _ l0_3 _ _ l0_4 _ _ l0_5 x13_4 t134 _ ?side1 ?side2 ?side3 ?side4 ?side5 ?side6 ?side7 ?side8 ?side9 ?side10 A102.out).mono ?_
                     (case side1 => exact tc (Kd.C_below HR0_1.out HB.out))
                     (case side2 => exact HC0_1.out)
                     (case side3 => exact tc (Kd.C_below HR0_2.out HB.out))
                     (case side4 => exact HC0_2.out)
                     (case side5 => exact tc (Kd.C_below HR0_3.out HB.out))
                     (case side6 => exact HC0_3.out)
                     (case side7 => exact tc (Kd.C_below HR0_4.out HB.out))
                     (case side8 => exact HC0_4.out)
                     (case side9 => exact tc (Kd.C_below HR0_5.out HB.out))
                     (case side10 => exact HC0_5.out)
                     rintro e w107 ⟨rfl, hb⟩
                     have HS6_ := (hb.cell (World.block_lt_of_cell? _ _ (hHeld.2.2.2.2.2.2))).trans (hHeld.2.2.2.2.2.2)
                     refine ⟨_, rfl, ?_⟩
                     replace HO_11 := ra HO_11.out hb
                     replace BK101 := ba BK101.out hb
                     replace BK114 := ba BK114.out hb
                     replace HB := Aside0.mk (below_step (tg2 HB.out GE101.out GE114.out) hb)
                     (try clear hb)
                     (try clear hb2)
                     (try clear hk)
                     (try clear hi)
                     refine hK.out _ _ ⟨(blk_cell BK101.out 0).trans rfl, (blk_cell BK101.out 1).trans rfl, (blk_cell BK101.out 2).trans rfl, (blk_cell BK101.out 3).trans rfl, (blk_cell BK101.out 4).trans rfl, (blk_cell BK101.out 5).trans rfl, HS6_⟩ (fun hHeld => ?_)
                     clear hK K
                     refine norm_ (a' := ?_) ?_ ?_
                     rotate_left
                     ·show Act.put _ (some 155) _ = _
                      simp only [Act.put, List.setIfInBounds_toArray, List.set_cons_zero, List.set_cons_succ, i64_w, i32_w]
                      rfl
                     refine pure_ (i := 10) (N := some 156) (v := ?_) (a' := ?_) #[true, true, true, true, true, true, true, true, true, true, true, false] rfl rfl (any_of HT_.out (by kernel_rfl)) (fun _ _ _ h => h) (Or.inl ⟨by rfl, ?_⟩) ?_ ?_
                     rotate_left
                     ·intro w'
                      go_simp
                      with_reducible rfl
                     rotate_left
                     ·simp only [Act.put, List.setIfInBounds_toArray, List.set_cons_zero, List.set_cons_succ, i64_w, i32_w]
                      rfl
                     refine pure_ (i := 11) (N := some 157) (v := ?_) (a' := ?_) #[true, true, true, true, true, true, true, true, true, true, true, true] rfl rfl (any_of HT_.out (by kernel_rfl)) (fun _ _ _ h => h) (Or.inl ⟨by rfl, ?_⟩) ?_ ?_
                     rotate_left
                     ·intro w'
                      go_simp
                      with_reducible rfl
                     rotate_left
                     ·simp only [Act.put, List.setIfInBounds_toArray, List.set_cons_zero, List.set_cons_succ, i64_w, i32_w]
                      rfl
                     refine done_ (done_of HT_.out (by kernel_rfl)) ?_
                     try go_wp2
                     go_roundg k5
                     case measure => have := HJ3.out; have := HK2.out; have := HJ33.out; have := HK4.out; have := HK5.out; omega
                     case rel => exact ⟨(wrap64 (x13_4 + 1)), ts, H', ⟨by have := HJ3.out; have := HK2.out; have := HJ33.out; have := HK4.out; have := HK5.out; omega⟩, ⟨tk HO_11.out⟩, ⟨tb BK101.out⟩, ⟨tb BK114.out⟩, ⟨tg2 HB.out GE101.out GE114.out⟩⟩
                    ·rw [if_neg c103] at H
                     have c103b0 : ((rd t116 x13_4) == t134) = false := beq_eq_false_iff_ne.mpr c103
                     have c103b1 : ((rd t116 x13_4) != t134) = true := bne_iff_ne.mpr c103
                     obtain rfl := Option.some.inj H
                     have hnb108 := NB101_114.out
                     have hnc108 := NB114_101.out
                     obtain ⟨hcz109_0, hcz109_1, hcz109_2, hcz109_3, hcz109_4, hcz109_5, hfz109_0, hfz109_1, hfz109_2, hfz109_3, hfz109_4, hfz109_5⟩ := cq6 BK101.out
                     try go_wp2
                     replace HO_11 := Aside0.mk (Kd.R_drew HO_11.out)
                     replace BK101 := Aside0.mk (blk_drew BK101.out)
                     replace BK114 := Aside0.mk (blk_drew BK114.out)
                     replace HB := Aside0.mk (below_drew1 HB.out)
                     have p133 : 0 ≤ (x13_4 : Int) := td
                     have q133 : x13_4 < (t116.length : Int) := td
                     obtain ⟨ad133, e133, hx133_0⟩ := Kd.at_int (Kd.R_reads' HO_11.out).2.2 x13_4 p133 q133
                     cases e133
                     replace p133 := eq_true p133
                     replace q133 := eq_true q133
                     refine start_ (n := 12) (S := fun w' => w'.cell? ⟨gb101, 0, none⟩ = some (.string a0_0) ∧ w'.cell? ⟨gb101, 1, none⟩ = some (.slice A0_1 l0_1.length c0_1) ∧ w'.cell? ⟨gb101, 2, none⟩ = some (.slice A0_2 l0_2.length c0_2) ∧ w'.cell? ⟨gb101, 3, none⟩ = some (.slice A0_3 l0_3.length c0_3) ∧ w'.cell? ⟨gb101, 4, none⟩ = some (.slice A0_4 l0_4.length c0_4) ∧ w'.cell? ⟨gb101, 5, none⟩ = some (.slice A0_5 l0_5.length c0_5) ∧ w'.cell? (ad133.add (x13_4).toNat) = some (.int .u32 (rd t116 x13_4))) (ds := []) #[false, false, false, false, false, false, false, false, false, false, false, false] (by kernel_rfl) rfl rfl ⟨(blk_cell BK101.out 0).trans rfl, (blk_cell BK101.out 1).trans rfl, (blk_cell BK101.out 2).trans rfl, (blk_cell BK101.out 3).trans rfl, (blk_cell BK101.out 4).trans rfl, (blk_cell BK101.out 5).trans rfl, hx133_0⟩ (fun hHeld => ?_); refine with_tabW budwoodlaw16_LinkOnly.tab24 budwoodlaw16_LinkOnly.bits24 (fun HT_ HW_ => ?_)
                     generalize wr.drew = w110 at HO_11 BK101 BK114 HB hx133_0 hHeld ⊢
                     refine pure_ (i := 0) (N := some 146) (v := ?_) (a' := ?_) #[true, false, false, false, false, false, false, false, false, false, false, false] rfl rfl (any_of HT_.out (by kernel_rfl)) (fun _ _ _ h => h) (Or.inl ⟨by rfl, ?_⟩) ?_ ?_
                     rotate_left
                     ·intro w'
                      go_simp
                      with_reducible rfl
                     rotate_left
                     ·simp only [Act.put, List.setIfInBounds_toArray, List.set_cons_zero, List.set_cons_succ, i64_w, i32_w]
                      rfl
                     refine pure_ (i := 1) (N := some 147) (v := ?_) (a' := ?_) #[true, true, false, false, false, false, false, false, false, false, false, false] rfl rfl (any_of HT_.out (by kernel_rfl)) (fun _ _ _ h => h) (Or.inl ⟨by rfl, ?_⟩) ?_ ?_
                     rotate_left
                     ·intro w'
                      go_simp
                      with_reducible rfl
                     rotate_left
                     ·simp only [Act.put, List.setIfInBounds_toArray, List.set_cons_zero, List.set_cons_succ, i64_w, i32_w]
                      rfl
                     refine pure_ (i := 2) (N := some 148) (v := ?_) (a' := ?_) #[true, true, true, false, false, false, false, false, false, false, false, false] rfl rfl (any_of HT_.out (by kernel_rfl)) (fun _ _ _ h => h) (Or.inl ⟨by rfl, ?_⟩) ?_ ?_
                     rotate_left
                     ·intro w'
                      go_simp
                      with_reducible rfl
                     rotate_left
                     ·simp only [Act.put, List.setIfInBounds_toArray, List.set_cons_zero, List.set_cons_succ, i64_w, i32_w]
                      rfl
                     refine pure_ (i := 3) (N := some 149) (v := ?_) (a' := ?_) #[true, true, true, true, false, false, false, false, false, false, false, false] rfl rfl (any_of HT_.out (by kernel_rfl)) (fun _ _ _ h => h) (Or.inl ⟨by rfl, ?_⟩) ?_ ?_
                     rotate_left
                     ·intro w'
                      go_simp
                      with_reducible rfl
                     rotate_left
                     ·simp only [Act.put, List.setIfInBounds_toArray, List.set_cons_zero, List.set_cons_succ, i64_w, i32_w]
                      rfl
                     refine pure_ (i := 4) (N := some 150) (v := ?_) (a' := ?_) #[true, true, true, true, true, false, false, false, false, false, false, false] rfl rfl (any_of HT_.out (by kernel_rfl)) (fun _ _ _ h => h) (Or.inl ⟨by rfl, ?_⟩) ?_ ?_
                     rotate_left
                     ·intro w'
                      go_simp
                      with_reducible rfl
                     rotate_left
                     ·simp only [Act.put, List.setIfInBounds_toArray, List.set_cons_zero, List.set_cons_succ, i64_w, i32_w]
                      rfl
                     refine pure_ (i := 5) (N := some 151) (v := ?_) (a' := ?_) #[true, true, true, true, true, true, false, false, false, false, false, false] rfl rfl (any_of HT_.out (by kernel_rfl)) (fun _ _ _ h => h) (Or.inl ⟨by rfl, ?_⟩) ?_ ?_
                     rotate_left
                     ·intro w'
                      go_simp
                      with_reducible rfl
                     rotate_left
                     ·simp only [Act.put, List.setIfInBounds_toArray, List.set_cons_zero, List.set_cons_succ, i64_w, i32_w]
                      rfl
                     refine pure_ (i := 8) (N := some 154) (v := ?_) (a' := ?_) #[true, true, true, true, true, true, false, false, true, false, false, false] rfl rfl (any_of HT_.out (by kernel_rfl)) (fun _ _ _ h => h) (Or.inl ⟨by rfl, ?_⟩) ?_ ?_
                     rotate_left
                     ·intro w'
                      go_simp
                      with_reducible rfl
                     rotate_left
                     ·simp only [Act.put, List.setIfInBounds_toArray, List.set_cons_zero, List.set_cons_succ, i64_w, i32_w]
                      rfl
                     refine take_ (i := 6) (N := some 152) (v := ?_) (a' := ?_) #[true, true, true, true, true, true, true, false, true, false, false, false] rfl rfl (take_ofW HT_.out HW_.out (by kernel_rfl)) (fun _ _ _ h => h) (Or.inl ⟨by rfl, ?_⟩) hHeld ?_ ?_
                     rotate_left
                     ·rintro w' ⟨s0, s1, s2, s3, s4, s5, s6⟩
                      go_simp
                      with_reducible rfl
                     rotate_left
                     ·simp only [Act.put, List.setIfInBounds_toArray, List.set_cons_zero, List.set_cons_succ, i64_w, i32_w]
                      rfl
                     refine take_ (i := 7) (N := some 153) (v := ?_) (a' := ?_) #[true, true, true, true, true, true, true, true, true, false, false, false] rfl rfl (take_ofW HT_.out HW_.out (by kernel_rfl)) (fun _ _ _ h => h) (Or.inl ⟨by rfl, ?_⟩) hHeld ?_ ?_
                     rotate_left
                     ·rintro w' ⟨s0, s1, s2, s3, s4, s5, s6⟩
                      go_simp
                      with_reducible rfl
                     rotate_left
                     ·simp only [Act.put, List.setIfInBounds_toArray, List.set_cons_zero, List.set_cons_succ, i64_w, i32_w]
                      rfl
                     refine one_ (i := 9) (N := some 155) #[true, true, true, true, true, true, true, true, true, true, false, false] rfl rfl (one_of HT_.out (by kernel_rfl)) (by decide) (fun K hK => ?_)
                     refine goes_ Tryd.func36 (by kernel_rfl) rfl #[.agg #[.string a0_0, .slice A0_1 l0_1.length c0_1, .slice A0_2 l0_2.length c0_2, .slice A0_3 l0_3.length c0_3, .slice A0_4 l0_4.length c0_4, .slice A0_5 l0_5.length c0_5], .int .i64 x13_4] (by rfl) rfl rfl tm ?_
                     with_reducible refine (layout_Raw.calls a0_0 _ _ l0_1 _ _ l0_2 _ _ l0_3 _ _ l0_4 _ _ l0_5 x13_4 t134 _ ?side1 ?side2 ?side3 ?side4 ?side5 ?side6 ?side7 ?side8 ?side9 ?side10 A102.out).mono ?_
                     (case side1 => exact tc (Kd.C_below HR0_1.out HB.out))
                     (case side2 => exact HC0_1.out)
                     (case side3 => exact tc (Kd.C_below HR0_2.out HB.out))
                     (case side4 => exact HC0_2.out)
                     (case side5 => exact tc (Kd.C_below HR0_3.out HB.out))
                     (case side6 => exact HC0_3.out)
                     (case side7 => exact tc (Kd.C_below HR0_4.out HB.out))
                     (case side8 => exact HC0_4.out)
                     (case side9 => exact tc (Kd.C_below HR0_5.out HB.out))
                     (case side10 => exact HC0_5.out)
                     rintro e w111 ⟨rfl, hb⟩
                     have HS6_ := (hb.cell (World.block_lt_of_cell? _ _ (hHeld.2.2.2.2.2.2))).trans (hHeld.2.2.2.2.2.2)
                     refine ⟨_, rfl, ?_⟩
                     replace HO_11 := ra HO_11.out hb
                     replace BK101 := ba BK101.out hb
                     replace BK114 := ba BK114.out hb
                     replace HB := Aside0.mk (below_step (tg2 HB.out GE101.out GE114.out) hb)
                     (try clear hb)
                     (try clear hb2)
                     (try clear hk)
                     (try clear hi)
                     refine hK.out _ _ ⟨(blk_cell BK101.out 0).trans rfl, (blk_cell BK101.out 1).trans rfl, (blk_cell BK101.out 2).trans rfl, (blk_cell BK101.out 3).trans rfl, (blk_cell BK101.out 4).trans rfl, (blk_cell BK101.out 5).trans rfl, HS6_⟩ (fun hHeld => ?_)
                     clear hK K
                     refine norm_ (a' := ?_) ?_ ?_
                     rotate_left
                     ·show Act.put _ (some 155) _ = _
                      simp only [Act.put, List.setIfInBounds_toArray, List.set_cons_zero, List.set_cons_succ, i64_w, i32_w]
                      rfl
                     refine pure_ (i := 10) (N := some 156) (v := ?_) (a' := ?_) #[true, true, true, true, true, true, true, true, true, true, true, false] rfl rfl (any_of HT_.out (by kernel_rfl)) (fun _ _ _ h => h) (Or.inl ⟨by rfl, ?_⟩) ?_ ?_
                     rotate_left
                     ·intro w'
                      go_simp
                      with_reducible rfl
                     rotate_left
                     ·simp only [Act.put, List.setIfInBounds_toArray, List.set_cons_zero, List.set_cons_succ, i64_w, i32_w]
                      rfl
                     refine pure_ (i := 11) (N := some 157) (v := ?_) (a' := ?_) #[true, true, true, true, true, true, true, true, true, true, true, true] rfl rfl (any_of HT_.out (by kernel_rfl)) (fun _ _ _ h => h) (Or.inl ⟨by rfl, ?_⟩) ?_ ?_
                     rotate_left
                     ·intro w'
                      go_simp
                      with_reducible rfl
                     rotate_left
                     ·simp only [Act.put, List.setIfInBounds_toArray, List.set_cons_zero, List.set_cons_succ, i64_w, i32_w]
                      rfl
                     refine done_ (done_of HT_.out (by kernel_rfl)) ?_
                     try go_wp2
                     go_ret
                     exact ⟨te, tg2 HB.out GE101.out GE114.out⟩
                   ·rw [if_neg c101] at H
                    exact absurd H (by simp)
                  ·rw [if_neg c100] at H
                   exact absurd H (by simp)
             ·rw [if_neg c53] at H
              have c53b0 : decide (x13_4 < (t116.length : Int)) = false := decide_eq_false c53
              clear c53
              replace H := Option.bind_eq_some_iff.mp H
              obtain ⟨t123, A1120, H⟩ := H
              replace H : (some t123) = some r := H
              have A112 := Aside0.mk A1120
              clear A1120
              obtain rfl := Option.some.inj H
              obtain ⟨Ao113, co113, eo113⟩ := Kd.R_slice HO_11.out
              subst eo113
              go_wp2_with (first | ((with_reducible refine gate_callee (f := 22) rfl ?_); refine goesL_ (some 158) rfl rfl Tryd.func22 (by kernel_rfl) rfl #[] rfl tm ?_; (with_reducible refine (budwoodlaw16_awake.calls k4  t123 _ A112.out).mono ?_); rintro e w114 ⟨rfl, hb⟩; refine ⟨_, rfl, ?_⟩; replace HO_11 := ra HO_11.out hb; replace BK101 := ba BK101.out hb; replace BK114 := ba BK114.out hb; replace HB := Aside0.mk (below_step (tg2 HB.out GE101.out GE114.out) hb); (try clear hb)))
              go_ret
              exact ⟨te, tg2 HB.out GE101.out GE114.out⟩
       ·rw [if_neg c32] at H
        have c32b0 : (t113 == 0) = false := beq_eq_false_iff_ne.mpr c32
        have c32b1 : (t113 != 0) = true := bne_iff_ne.mpr c32
        replace H := Option.bind_eq_some_iff.mp H
        obtain ⟨t115, A1150, H⟩ := H
        replace H : (some t115) = some r := H
        have A115 := Aside0.mk A1150
        clear A1150
        obtain rfl := Option.some.inj H
        obtain ⟨hcz116_0, hcz116_1, hcz116_2, hcz116_3, hcz116_4, hcz116_5, hfz116_0, hfz116_1, hfz116_2, hfz116_3, hfz116_4, hfz116_5⟩ := cq6 BK101.out
        go_wp2_with (first | ((with_reducible refine gate_callee (f := 32) rfl ?_); refine goesL_ (some 55) rfl rfl Tryd.func32 (by kernel_rfl) rfl #[.agg #[.string a0_0, .slice A0_1 l0_1.length c0_1, .slice A0_2 l0_2.length c0_2, .slice A0_3 l0_3.length c0_3, .slice A0_4 l0_4.length c0_4, .slice A0_5 l0_5.length c0_5]] rfl tm ?_; (with_reducible refine (layout_Of.calls a0_0 _ _ l0_1 _ _ l0_2 _ _ l0_3 _ _ l0_4 _ _ l0_5 t109 t110 _ (tc (Kd.C_below HR0_1.out HB.out)) HC0_1.out (tc (Kd.C_below HR0_2.out HB.out)) HC0_2.out (tc (Kd.C_below HR0_3.out HB.out)) HC0_3.out (tc (Kd.C_below HR0_4.out HB.out)) HC0_4.out (tc (Kd.C_below HR0_5.out HB.out)) HC0_5.out A30.out).mono ?_); rintro e w117 ⟨rfl, hb⟩; refine ⟨_, rfl, ?_⟩; replace HO_7 := ra HO_7.out hb; replace BK101 := ba BK101.out hb; replace HB := Aside0.mk (below_step (tg1 HB.out GE101.out) hb); (try clear hb)) | ((with_reducible refine gate_callee (f := 31) rfl ?_); refine goesL_ (some 58) rfl rfl Tryd.func31 (by kernel_rfl) rfl #[.agg #[.int .i64 t109, .int .i64 t110], .int .i64 (wrap64 (a1))] rfl tm ?_; (with_reducible refine (layout_At.calls k2 t109 t110 (wrap64 (a1)) t111 t112 t113 _ A31.out).mono ?_); rintro e w118 ⟨rfl, hb⟩; refine ⟨_, rfl, ?_⟩; replace HO_7 := ra HO_7.out hb; replace BK101 := ba BK101.out hb; replace HB := Aside0.mk (below_step (tg1 HB.out GE101.out) hb); (try clear hb)) | ((with_reducible refine gate_dst (N := 9) rfl ?_); (try (refine gate_guard (by rfl) ?_; dsimp only)); refine box_event ?hg (N := 9) ?hd (cs := #[.int .u32 0, .int .u32 0]) (t := 73) ?hr ?_; (case hd => rfl); (case hg => rfl); (case hr => first | (go_simp; done) | (go_simp; rfl)); intro gb114 hg w119 hbox hb; have n0_ := ra HO_7.out hb; have n1_ := ba BK101.out hb; have n2_ := Aside0.mk (below_step (tg1 HB.out GE101.out) hb); have n3_ := Aside0.mk (hbox); have n4_ := Aside0.mk ((by rw [hg]; exact (below_size (tg1 HB.out GE101.out)) : w.heap.size ≤ gb114)); have n5_ := Aside0.mk ((by rw [hg]; exact (below_size (tg1 HB.out GE101.out)) : w.heap.size ≤ gb114)); have n6_ := Aside0.mk ((by rw [hg]; exact Nat.ne_of_lt (blk_lt (g := gb101) (o := .cells #[.string a0_0, .slice A0_1 l0_1.length c0_1, .slice A0_2 l0_2.length c0_2, .slice A0_3 l0_3.length c0_3, .slice A0_4 l0_4.length c0_4, .slice A0_5 l0_5.length c0_5] 26 (0, 0)) (tb BK101.out)) : gb101 ≠ gb114)); have n7_ := Aside0.mk ((by rw [hg]; exact Nat.ne_of_gt (blk_lt (g := gb101) (o := .cells #[.string a0_0, .slice A0_1 l0_1.length c0_1, .slice A0_2 l0_2.length c0_2, .slice A0_3 l0_3.length c0_3, .slice A0_4 l0_4.length c0_4, .slice A0_5 l0_5.length c0_5] 26 (0, 0)) (tb BK101.out)) : gb114 ≠ gb101)); clear HO_7; clear BK101; clear HB; have HO_7 := n0_; have BK101 := n1_; have HB := n2_; have BK114 := n3_; have GW114 := n4_; have GE114 := n5_; have NB101_114 := n6_; have NB114_101 := n7_; clear n0_ n1_ n2_ n3_ n4_ n5_ n6_ n7_; clear hb hbox hg; have hnb120 := NB114_101.out; have hnc120 := NB101_114.out; obtain ⟨hcz121_0, hcz121_1, hfz121_0, hfz121_1⟩ := cq2 BK114.out) | ((with_reducible refine gate_callee (f := 22) rfl ?_); refine goesL_ (some 63) rfl rfl Tryd.func22 (by kernel_rfl) rfl #[] rfl tm ?_; (with_reducible refine (budwoodlaw16_awake.calls k2  t115 _ A115.out).mono ?_); rintro e w122 ⟨rfl, hb⟩; refine ⟨_, rfl, ?_⟩; replace HO_7 := Aside0.mk (Kd.R_below (by (with_reducible repeat (first | apply Kd.R_alloc | apply Kd.R_drewN | apply Kd.R_drew)); exact (Kd.R_mono (Kd.R_far (p := ⟨gb114, 1, none⟩) (Kd.R_far (p := ⟨gb114, 0, none⟩) (Kd.R_types HO_7.out BK114.out (by decide)) (fun _ hk => hk.2) (.int .u32 t111)) (fun _ hk => hk.2) (.int .u32 t112)) (fun _ h_ => h_.1))) hb); replace BK101 := Aside0.mk (blk_below (g := gb101) (o := .cells #[.string a0_0, .slice A0_1 l0_1.length c0_1, .slice A0_2 l0_2.length c0_2, .slice A0_3 l0_3.length c0_3, .slice A0_4 l0_4.length c0_4, .slice A0_5 l0_5.length c0_5] 26 (0, 0)) (by (with_reducible repeat (first | refine blk_drewN ?_ _ | refine blk_drew ?_ | refine blk_alloc ?_ _)); refine blk_far ?_ NB101_114.out _; (with_reducible repeat (first | refine blk_drewN ?_ _ | refine blk_drew ?_ | refine blk_alloc ?_ _)); refine blk_far ?_ NB101_114.out _; (with_reducible repeat (first | refine blk_drewN ?_ _ | refine blk_drew ?_ | refine blk_alloc ?_ _)); exact BK101.out) hb); replace BK114 := Aside0.mk (blk_below (g := gb114) (o := .cells #[.int .u32 t111, .int .u32 t112] 73 (0, 0)) (by (with_reducible repeat (first | refine blk_drewN ?_ _ | refine blk_drew ?_ | refine blk_alloc ?_ _)); refine blk_put (cs := #[.int .u32 t111, .int .u32 0]) ?_ 1 _ rfl; (with_reducible repeat (first | refine blk_drewN ?_ _ | refine blk_drew ?_ | refine blk_alloc ?_ _)); refine blk_put (cs := #[.int .u32 0, .int .u32 0]) ?_ 0 _ rfl; (with_reducible repeat (first | refine blk_drewN ?_ _ | refine blk_drew ?_ | refine blk_alloc ?_ _)); exact BK114.out) hb); replace HB := Aside0.mk (below_step (tg2 HB.out GE101.out GE114.out) hb); (try clear hb)))
        go_ret
        exact ⟨te, tg2 HB.out GE101.out GE114.out⟩

end Go.Proofs.YtiphindialkmnaaDoor.X
end
section
namespace Go.Proofs.YtiphindialkmnaaDoor.X
open Go.RowKit Go.Proofs.YtiphindialkmnaaDoorW.PrintWords Go.Proofs.YtiphindialkmnaaDoorW.PrintLast Go.Proofs.YtiphindialkmnaaDoorW.PrintMore
set_option linter.unusedSimpArgs false
set_option linter.unusedVariables false
theorem image_len (l3 l4 : List Int) (l5 : List S43) (p0 p1 : Int) (sl : List Int) (n : Nat) : (imageV l3 l4 l5 p0 p1 sl n).length = n := by unfold imageV; simp
theorem image_rd (l3 l4 : List Int) (l5 : List S43) (p0 p1 : Int) (sl : List Int) {n i : Nat} (h : i < n) : rd (imageV l3 l4 l5 p0 p1 sl n) (i : Int) = linkV l3 l4 l5 p0 p1 sl i := by
  rw [rd_nat]
  unfold imageV
  rw [List.getD_eq_getElem?_getD, List.getElem?_map, List.getElem?_range h]
  rfl
/-- has one of the first relocations this word? -/
def hasRel (l3 l4 : List Int) (l5 : List S43) (i j : Nat) : Prop := (spotV l3 l4 i).2.2 = true ∧ ∃ x, x < j ∧ wordIs (spotV l3 l4 i).2.1 (spotV l3 l4 i).1 (l5.getD x z43) = true
theorem hasRel_none {l3 l4 : List Int} {l5 : List S43} {i : Nat} (h : ¬ hasRel l3 l4 l5 i l5.length) : relAt l3 l4 l5 i = none := by
  unfold relAt
  by_cases c : (spotV l3 l4 i).2.2 = true
  · rw [if_pos c, first_none]
    intro j _ hj
    cases hw : wordIs (spotV l3 l4 i).2.1 (spotV l3 l4 i).1 (l5.getD j z43) with
    | false => rfl
    | true => exact absurd ⟨c, j, by omega, hw⟩ h
  · rw [if_neg c]
theorem hasRel_step {l3 l4 : List Int} {l5 : List S43} {i j : Nat} : hasRel l3 l4 l5 i (j + 1) ↔ hasRel l3 l4 l5 i j ∨ ((spotV l3 l4 i).2.2 = true ∧ wordIs (spotV l3 l4 i).2.1 (spotV l3 l4 i).1 (l5.getD j z43) = true) := by
  constructor
  · rintro ⟨h1, x, hx, hw⟩
    by_cases e : x = j
    · rw [e] at hw; exact .inr ⟨h1, hw⟩
    · exact .inl ⟨h1, x, by omega, hw⟩
  · rintro (⟨h1, x, hx, hw⟩ | ⟨h1, hw⟩)
    · exact ⟨h1, x, by omega, hw⟩
    · exact ⟨h1, j, by omega, hw⟩
theorem only_l1 (a0 : ByteArray) (l1 l2 : List ByteArray) (l3 l4 : List Int) (l5 : List S43) (h3 : l3.length ≤ 4000) (h4 : l4.length ≤ 4000) (h5 : l5.length ≤ 4000) (hw : ∀ r ∈ l5, wfR r) (h7 : ∀ r ∈ l5, r.f0 ≤ 7) (p0 p1 : Int) (sl : List Int) (n : Nat) (hn : n ≤ 20000) :
    ∀ (d i : Nat), i + d = n → ∀ k, 5000 * d + 200 ≤ k → budwoodlaw16_LinkOnly.l1 k (imageV l3 l4 l5 p0 p1 sl n) (i : Int) a0 l1 l2 l3 l4 l5 = some true := by
  intro d
  induction d with
  | zero =>
    intro i h1 k hk
    obtain ⟨k, rfl⟩ : ∃ k', k = k' + 1 := ⟨k - 1, by omega⟩
    simp only [budwoodlaw16_LinkOnly.l1, image_len]
    rw [if_neg (by omega), awake16_at (by omega)]
    rfl
  | succ d ih =>
    intro i h1 k hk
    obtain ⟨k, rfl⟩ : ∃ k', k = k' + 1 := ⟨k - 1, by omega⟩
    have inner : ∀ (e j : Nat) (b : Bool) (k : Nat), j + e = l5.length → 5000 * d + e + 210 ≤ k → (b = true ↔ hasRel l3 l4 l5 i j) →
        budwoodlaw16_LinkOnly.l2 k (imageV l3 l4 l5 p0 p1 sl n) (i : Int) (spotV l3 l4 i).1 (spotV l3 l4 i).2.1 (spotV l3 l4 i).2.2 b (j : Int) a0 l1 l2 l3 l4 l5 = some true := by
      intro e
      induction e with
      | zero =>
        intro j b k h2 hk2 hb
        obtain ⟨k, rfl⟩ : ∃ k', k = k' + 1 := ⟨k - 1, by omega⟩
        have hj : j = l5.length := by omega
        subst hj
        have next : budwoodlaw16_LinkOnly.l1 k (imageV l3 l4 l5 p0 p1 sl n) (wrap64 ((i : Int) + 1)) a0 l1 l2 l3 l4 l5 = some true := by
          rw [w64 _ (by omega)]
          exact ih (i + 1) (by omega) k (by omega)
        simp only [budwoodlaw16_LinkOnly.l2]
        rw [if_neg (by omega), next]
        cases b with
        | true => rfl
        | false =>
          have hr : relAt l3 l4 l5 i = none := hasRel_none (fun h => by have := hb.2 h; cases this)
          rw [if_neg (by decide), if_pos (by omega), if_pos (by rw [image_len]; omega), Raw_at a0 l1 l2 l3 l4 l5 h3 h4 i (by omega), Option.bind_some, image_rd _ _ _ _ _ _ (show i < n by omega)]
          unfold linkV
          rw [hr, if_pos rfl]
      | succ e ih2 =>
        intro j b k h2 hk2 hb
        obtain ⟨k, rfl⟩ : ∃ k', k = k' + 1 := ⟨k - 1, by omega⟩
        have hj : j < l5.length := by omega
        have hm := getD_mem z43 hj
        have hwj := hw _ hm
        have h7j := h7 _ hm
        have next : ∀ b', (b' = true ↔ hasRel l3 l4 l5 i (j + 1)) → budwoodlaw16_LinkOnly.l2 k (imageV l3 l4 l5 p0 p1 sl n) (i : Int) (spotV l3 l4 i).1 (spotV l3 l4 i).2.1 (spotV l3 l4 i).2.2 b' (wrap64 ((j : Int) + 1)) a0 l1 l2 l3 l4 l5 = some true := by
          intro b' hb'
          rw [w64 _ (by omega)]
          exact ih2 (j + 1) b' k (by omega) (by omega) hb'
        have nT : b = true → budwoodlaw16_LinkOnly.l2 k (imageV l3 l4 l5 p0 p1 sl n) (i : Int) (spotV l3 l4 i).1 (spotV l3 l4 i).2.1 (spotV l3 l4 i).2.2 true (wrap64 ((j : Int) + 1)) a0 l1 l2 l3 l4 l5 = some true := fun hbt => next true ⟨fun _ => hasRel_step.2 (.inl (hb.1 hbt)), fun _ => rfl⟩
        have nF : b = false → ¬ ((spotV l3 l4 i).2.2 = true ∧ wordIs (spotV l3 l4 i).2.1 (spotV l3 l4 i).1 (l5.getD j z43) = true) → budwoodlaw16_LinkOnly.l2 k (imageV l3 l4 l5 p0 p1 sl n) (i : Int) (spotV l3 l4 i).1 (spotV l3 l4 i).2.1 (spotV l3 l4 i).2.2 false (wrap64 ((j : Int) + 1)) a0 l1 l2 l3 l4 l5 = some true := by
          intro hbf hno
          refine next false ⟨fun h => (by cases h), fun h => ?_⟩
          rcases hasRel_step.1 h with h | h
          · have := hb.2 h; rw [hbf] at this; exact this
          · exact absurd h hno
        have nW : b = false → (spotV l3 l4 i).2.2 = true → wrap64 (l5.getD j z43).f1 = (spotV l3 l4 i).2.1 → ∀ x, dataK (l5.getD j z43).f0 = x → budwoodlaw16_LinkOnly.l2 k (imageV l3 l4 l5 p0 p1 sl n) (i : Int) (spotV l3 l4 i).1 (spotV l3 l4 i).2.1 (spotV l3 l4 i).2.2 (x != (spotV l3 l4 i).1) (wrap64 ((j : Int) + 1)) a0 l1 l2 l3 l4 l5 = some true := by
          intro hbf hok hat x hx
          have hwi : wordIs (spotV l3 l4 i).2.1 (spotV l3 l4 i).1 (l5.getD j z43) = (x != (spotV l3 l4 i).1) := by
            unfold wordIs
            rw [decide_eq_true hat, decide_eq_true h7j, hx, Bool.true_and, Bool.and_true]
            rfl
          refine next _ ⟨fun h => hasRel_step.2 (.inr ⟨hok, by rw [hwi]; exact h⟩), fun h => ?_⟩
          rcases hasRel_step.1 h with h | h
          · have := hb.2 h; rw [hbf] at this; cases this
          · rw [← hwi]; exact h.2
        have stepK : ∀ x, dataK (l5.getD j z43).f0 = x → (if b = true then budwoodlaw16_LinkOnly.l2 k (imageV l3 l4 l5 p0 p1 sl n) (i : Int) (spotV l3 l4 i).1 (spotV l3 l4 i).2.1 (spotV l3 l4 i).2.2 true (wrap64 ((j : Int) + 1)) a0 l1 l2 l3 l4 l5
            else if (spotV l3 l4 i).2.2 = true then (if wrap64 (l5.getD j z43).f1 = (spotV l3 l4 i).2.1 then budwoodlaw16_LinkOnly.l2 k (imageV l3 l4 l5 p0 p1 sl n) (i : Int) (spotV l3 l4 i).1 (spotV l3 l4 i).2.1 (spotV l3 l4 i).2.2 (x != (spotV l3 l4 i).1) (wrap64 ((j : Int) + 1)) a0 l1 l2 l3 l4 l5
              else budwoodlaw16_LinkOnly.l2 k (imageV l3 l4 l5 p0 p1 sl n) (i : Int) (spotV l3 l4 i).1 (spotV l3 l4 i).2.1 (spotV l3 l4 i).2.2 false (wrap64 ((j : Int) + 1)) a0 l1 l2 l3 l4 l5)
            else budwoodlaw16_LinkOnly.l2 k (imageV l3 l4 l5 p0 p1 sl n) (i : Int) (spotV l3 l4 i).1 (spotV l3 l4 i).2.1 (spotV l3 l4 i).2.2 false (wrap64 ((j : Int) + 1)) a0 l1 l2 l3 l4 l5) = some true := by
          intro x hx
          cases hbb : b with
          | true => rw [if_pos rfl]; exact nT hbb
          | false =>
            rw [if_neg (by decide)]
            by_cases c1 : (spotV l3 l4 i).2.2 = true
            · rw [if_pos c1]
              by_cases c2 : wrap64 (l5.getD j z43).f1 = (spotV l3 l4 i).2.1
              · rw [if_pos c2]; exact nW hbb c1 c2 x hx
              · rw [if_neg c2]
                refine nF hbb (fun h => c2 ?_)
                have := h.2
                unfold wordIs at this
                rw [Bool.and_eq_true] at this
                exact of_decide_eq_true this.1
            · rw [if_neg c1]; exact nF hbb (fun h => c1 h.1)
        simp only [budwoodlaw16_LinkOnly.l2]
        rw [if_pos (by omega), if_pos (by omega), rdT_nat]
        by_cases k4 : (l5.getD j z43).f0 = 4
        · rw [if_pos k4]; exact stepK true (by rw [k4]; rfl)
        · rw [if_neg k4]
          by_cases k5 : (l5.getD j z43).f0 = 5
          · rw [if_pos k5]; exact stepK true (by rw [k5]; rfl)
          · rw [if_neg k5]
            refine stepK _ ?_
            unfold dataK
            rw [beq_eq_false_iff_ne.2 k4, beq_eq_false_iff_ne.2 k5]
            rfl
    simp only [budwoodlaw16_LinkOnly.l1, image_len]
    rw [if_pos (by omega), Spot_at a0 l1 l2 l3 l4 l5 h3 h4 i (by omega), Option.bind_some]
    exact inner l5.length 0 false k (by omega) (by omega) ⟨fun h => (by cases h), fun ⟨_, x, hx, _⟩ => (by omega)⟩
def slotsV (sl : List Int) (n : Nat) : List Int := (List.range n).map (fun (i : Nat) => rd sl (i : Int) % 64)
theorem only_l0 (a0 : ByteArray) (l1 l2 : List ByteArray) (l3 l4 : List Int) (l5 : List S43) (hw : ∀ r ∈ l5, wfR r) (hx3 : ∀ x ∈ l3, 0 ≤ x ∧ x < 4294967296) (hx4 : ∀ x ∈ l4, 0 ≤ x ∧ x < 4294967296) (h : ModOk a0 l1 l2 l3 l4 l5) (x : Nat) (hx : x ≤ 255) (sl : List Int) (hs : ∀ y ∈ sl, 0 ≤ y ∧ y ≤ 65535) (hsl : l2.length ≤ sl.length) :
    ∀ (d i k : Nat), i + d = l2.length → d + 5000000 ≤ k → budwoodlaw16_LinkOnly.l0 k (x : Int) sl (slotsV sl i) (i : Int) a0 l1 l2 l3 l4 l5 = some true := by
  obtain ⟨o1, o2, o3, o4, o5, o6, o7, o8, o9⟩ := h.obj
  intro d
  induction d with
  | zero =>
    intro i k h1 hk
    obtain ⟨k, rfl⟩ : ∃ k', k = k' + 2 := ⟨k - 2, by omega⟩
    have hi : i = l2.length := by omega
    subst hi
    have hsv : ∀ y ∈ slotsV sl l2.length, 0 ≤ y ∧ y ≤ 65535 := by
      intro y hy
      unfold slotsV at hy
      obtain ⟨q, _, rfl⟩ := List.mem_map.1 hy
      omega
    have hlen : (slotsV sl l2.length).length = l2.length := by unfold slotsV; simp
    simp only [budwoodlaw16_LinkOnly.l0]
    rw [if_neg (by omega), Of_at a0 l1 l2 l3 l4 l5 (by omega) (by omega), Option.bind_some, w64 _ (by omega)]
    obtain ⟨e, he⟩ := At_at o4 o5 h.w0.1 x hx (k + 1) (by omega)
    rw [he, Option.bind_some]
    by_cases c : e = 0
    · have e1 := pages_le o4
      have e2 := pages_le (show l4.length ≤ 512 by omega)
      rw [if_pos c]
      have hp : PlaceOk l2 ((80 + 16 * x : Nat) : Int) ((80 + 16 * (x + pages l3.length) : Nat) : Int) (slotsV sl l2.length) := ⟨by omega, by omega, by omega, hsv⟩
      simp only [if_pos c]
      rw [Image_at hw hx3 hx4 h hp (k + 1) (by omega), Option.bind_some, if_pos rfl]
      simp only [Option.bind_some, image_len]
      rw [Words_at o4 o5 h.w0.1, Option.bind_some]
      rw [show (((wordsN l3 l4 : Nat) : Int) != ((wordsN l3 l4 : Nat) : Int)) = false from by simp]
      simp only [budwoodlaw16_LinkOnly.j2, Bool.false_eq_true, if_false]
      have hn : wordsN l3 l4 ≤ 800 := by unfold wordsN; have : pages l4.length ≤ 8 := by unfold pages; omega
                                         omega
      exact only_l1 a0 l1 l2 l3 l4 l5 (by omega) (by omega) (by omega) hw o9 _ _ _ _ (by omega) (wordsN l3 l4) 0 (by omega) k (by omega)
    · rw [if_neg c, awake16_at (by omega)]
      rfl
  | succ d ih =>
    intro i k h1 hk
    obtain ⟨k, rfl⟩ : ∃ k', k = k' + 1 := ⟨k - 1, by omega⟩
    have hr := hs _ (getD_mem 0 (show i < sl.length by omega))
    have hl : (slotsV sl i).length = i := by unfold slotsV; simp
    have e0 : (Int.tmod (rd sl (i : Int)) 64) % 4294967296 = rd sl (i : Int) % 64 := by
      rw [rd_nat]
      obtain ⟨q, hq⟩ := Int.eq_ofNat_of_zero_le hr.1
      rw [hq, Int.tmod_eq_emod_of_nonneg (by omega)]
      omega
    have e : slotsV sl i ++ [rd sl (i : Int) % 64] = slotsV sl (i + 1) := by
      unfold slotsV
      rw [List.range_succ, List.map_append]
      rfl
    simp only [budwoodlaw16_LinkOnly.l0]
    rw [if_pos (by omega), if_pos (by omega), if_pos (by omega), if_pos (by omega), e0, e, w64 _ (by omega)]
    exact ih (i + 1) k (by omega) (by omega)
theorem only_law (a0 : ByteArray) (l1 l2 : List ByteArray) (l3 l4 : List Int) (l5 : List S43) (x : Int) (sl : List Int)
    (hn : a0.size ≤ 9223372036854775807) (he : ∀ s ∈ l1, s.size ≤ 9223372036854775807) (hi : ∀ s ∈ l2, s.size ≤ 9223372036854775807) (hr : ∀ r ∈ l5, wfR r) (h3 : ∀ x ∈ l3, 0 ≤ x ∧ x < 4294967296) (h4 : ∀ x ∈ l4, 0 ≤ x ∧ x < 4294967296) (hl : l1.length ≤ 9223372036854775807)
    (hx : 0 ≤ x ∧ x ≤ 255) (hs : ∀ y ∈ sl, 0 ≤ y ∧ y ≤ 65535) :
    ∃ k, budwoodlaw16_LinkOnly.f k a0 l1 l2 l3 l4 l5 x sl = some true := by
  obtain ⟨n, hn5⟩ : ∃ n, 6000000 ≤ n := ⟨6000000, Nat.le_refl _⟩
  refine ⟨n + 1, ?_⟩
  unfold budwoodlaw16_LinkOnly.f
  obtain ⟨s, hsz0, hsz⟩ := size_law a0 l1 l2 l3 l4 l5 (n + 1) (by omega) hl
  rw [hsz0, Option.bind_some]
  have jT : budwoodlaw16_LinkOnly.j0 (n + 1) x sl true a0 l1 l2 l3 l4 l5 = some true := by
    simp only [budwoodlaw16_LinkOnly.j0, if_true]
    rw [awake16_at (by omega)]
    rfl
  by_cases hb : s > 2000
  · rw [if_pos hb, jT]
  rw [if_neg hb]
  have hlen := hsz (by omega)
  have hw : ModWf a0 l1 l2 l3 l4 l5 := ⟨hn, he, hi, hr, by omega⟩
  rw [check_law (n + 1) (by omega) hw, Option.bind_some]
  by_cases hv : (vModule a0 l1 l2 l3 l4 l5).1 = 0
  case neg => rw [if_neg hv, if_neg (by decide), jT]
  rw [if_pos hv, if_pos rfl]
  have h := ok_iff.1 hv
  by_cases c : (sl.length : Int) < (l2.length : Int)
  · rw [decide_eq_true c, jT]
  · rw [decide_eq_false c]
    simp only [budwoodlaw16_LinkOnly.j0, Bool.false_eq_true, if_false]
    obtain ⟨q, rfl⟩ := Int.eq_ofNat_of_zero_le hx.1
    exact only_l0 a0 l1 l2 l3 l4 l5 hr h3 h4 h q (by omega) sl hs (by omega) l2.length 0 n (by omega) (by omega)
end Go.Proofs.YtiphindialkmnaaDoor.X
end
