/- Texts that the proof rests on, part 12. -/
import Derived.Test.YtiphindialkmnaaDoorMMore11
section
namespace Go.Proofs.YtiphindialkmnaaDoor.X
open Go.RowKit Go.Proofs.YtiphindialkmnaaDoorW.PrintWords Go.Proofs.YtiphindialkmnaaDoorW.PrintLast Go.Proofs.YtiphindialkmnaaDoorW.PrintMore
attribute [local go_sem] max2_int min2_int max_two min_two max_three min_three max_four min_four
set_option linter.unusedVariables false
set_option linter.unusedSimpArgs false

/-! ### budwoodlaw11_ValidMore: function 6 -/
mutual
def budwoodlaw11_ValidMore.j0 : Nat → ByteArray → Bool → ByteArray → List ByteArray → List ByteArray → List Int → List Int → List (S43) → Option (Bool)
 | 0, _, _, _, _, _, _, _, _ => none
 | k + 1, x1, x18, x102000, x102001, x102002, x102003, x102004, x102005 => if x18 = true then ((budwoodlaw11_awake.f k).bind fun t104 => (some t104)) else ((budwoodref10_Copy.f x102000 x102001 x102002 x102003 x102004 x102005).bind fun bt105 => (if bt105.2.2.1.length < 8796093022208 then ((valid_Module.f k bt105.1 bt105.2.1 (bt105.2.2.1 ++ [x1]) bt105.2.2.2.1 bt105.2.2.2.2.1 bt105.2.2.2.2.2).bind fun bt125 => (budwoodlaw11_ValidMore.l0 k x1 bt125.1 bt125.2 false 0 x102000 x102001 x102002 x102003 x102004 x102005)) else (none)))
def budwoodlaw11_ValidMore.l0 : Nat → ByteArray → Int → Int → Bool → Int → ByteArray → List ByteArray → List ByteArray → List Int → List Int → List (S43) → Option (Bool)
 | 0, _, _, _, _, _, _, _, _, _, _, _ => none
 | k + 1, x1, x6, x7, x8, x9, x102000, x102001, x102002, x102003, x102004, x102005 => if x9 < (x102002.length : Int) then (if x8 = true then (budwoodlaw11_ValidMore.l0 k x1 x6 x7 true (wrap64 (x9 + 1)) x102000 x102001 x102002 x102003 x102004 x102005) else (if 0 ≤ x9 then (budwoodlaw11_ValidMore.l0 k x1 x6 x7 ((rdOf ByteArray.empty x102002 x9).toList == x1.toList) (wrap64 (x9 + 1)) x102000 x102001 x102002 x102003 x102004 x102005) else (none))) else (if (x102002.length : Int) = 16 then (budwoodlaw11_ValidMore.j2 k x6 x7 x8 true x102000 x102001 x102002 x102003 x102004 x102005) else (budwoodlaw11_ValidMore.j2 k x6 x7 x8 (decide ((x1.size : Int) > 96)) x102000 x102001 x102002 x102003 x102004 x102005))
def budwoodlaw11_ValidMore.j2 : Nat → Int → Int → Bool → Bool → ByteArray → List ByteArray → List ByteArray → List Int → List Int → List (S43) → Option (Bool)
 | 0, _, _, _, _, _, _, _, _, _, _ => none
 | k + 1, x6, x7, x8, x50, x102000, x102001, x102002, x102003, x102004, x102005 => if x50 = true then (if x6 = 1 then ((budwoodlaw11_awake.f k).bind fun t128 => (some t128)) else (some false)) else (if x6 = 2 then (if x7 = (wrap64 (9 + (x102002.length : Int))) then ((budwoodlaw11_awake.f k).bind fun t129 => (some t129)) else (some false)) else (if x8 = true then (if x6 = 3 then (if x7 = (wrap64 (8 + (x102002.length : Int))) then ((budwoodlaw11_awake.f k).bind fun t130 => (some t130)) else (some false)) else (some false)) else ((budwoodref10_Copy.f x102000 x102001 x102002 x102003 x102004 x102005).bind fun bt131 => (if bt131.2.2.2.2.1.length < 35184372088832 then (if x6 = 0 then ((valid_Check.f k bt131.1 bt131.2.1 bt131.2.2.1 bt131.2.2.2.1 (bt131.2.2.2.2.1 ++ [7]) bt131.2.2.2.2.2).bind fun t151 => (if ((t151 == 0) == (decide ((x102004.length : Int) < 128))) = true then ((budwoodlaw11_awake.f k).bind fun t152 => (some t152)) else (some false))) else (some false)) else (none)))))
end
def budwoodlaw11_ValidMore.f (k : Nat) (a0_0 : ByteArray) (l0_1 : List ByteArray) (l0_2 : List ByteArray) (l0_3 : List Int) (l0_4 : List Int) (l0_5 : List (S43)) (a1 : ByteArray) : Option (Bool) := (budwoodref10_Size.f k a0_0 l0_1 l0_2 l0_3 l0_4 l0_5).bind fun t102 => (if t102 > 2000 then (budwoodlaw11_ValidMore.j0 k a1 true a0_0 l0_1 l0_2 l0_3 l0_4 l0_5) else ((valid_Check.f k a0_0 l0_1 l0_2 l0_3 l0_4 l0_5).bind fun t103 => (budwoodlaw11_ValidMore.j0 k a1 (t103 != 0) a0_0 l0_1 l0_2 l0_3 l0_4 l0_5)))
theorem budwoodlaw11_ValidMore.mono_l : ∀ k, (∀ y0 y1 y2 y3 y4 y5 y6 y7, LeO (budwoodlaw11_ValidMore.j0 k y0 y1 y2 y3 y4 y5 y6 y7) (budwoodlaw11_ValidMore.j0 (k + 1) y0 y1 y2 y3 y4 y5 y6 y7)) ∧ (∀ y0 y1 y2 y3 y4 y5 y6 y7 y8 y9 y10, LeO (budwoodlaw11_ValidMore.l0 k y0 y1 y2 y3 y4 y5 y6 y7 y8 y9 y10) (budwoodlaw11_ValidMore.l0 (k + 1) y0 y1 y2 y3 y4 y5 y6 y7 y8 y9 y10)) ∧ (∀ y0 y1 y2 y3 y4 y5 y6 y7 y8 y9, LeO (budwoodlaw11_ValidMore.j2 k y0 y1 y2 y3 y4 y5 y6 y7 y8 y9) (budwoodlaw11_ValidMore.j2 (k + 1) y0 y1 y2 y3 y4 y5 y6 y7 y8 y9))
 | 0 => ⟨fun _ _ _ _ _ _ _ _ r h => by simp [budwoodlaw11_ValidMore.j0] at h, fun _ _ _ _ _ _ _ _ _ _ _ r h => by simp [budwoodlaw11_ValidMore.l0] at h, fun _ _ _ _ _ _ _ _ _ _ r h => by simp [budwoodlaw11_ValidMore.j2] at h⟩
 | k + 1 => by
  obtain ⟨ih0, ih1, ih2⟩ := budwoodlaw11_ValidMore.mono_l k
  refine ⟨?_, ?_, ?_⟩
  ·intro y0 y1 y2 y3 y4 y5 y6 y7
   unfold budwoodlaw11_ValidMore.j0
   repeat' first
   | (with_reducible exact ih0 _ _ _ _ _ _ _ _)
   | (with_reducible exact ih1 _ _ _ _ _ _ _ _ _ _ _)
   | (with_reducible exact ih2 _ _ _ _ _ _ _ _ _ _)
   | (with_reducible exact budwoodlaw11_awake.mono _)
   | (with_reducible exact budwoodref10_Size.mono _ _ _ _ _ _ _)
   | (with_reducible exact valid_Check.mono _ _ _ _ _ _ _)
   | (with_reducible exact valid_Module.mono _ _ _ _ _ _ _)
   | (with_reducible exact LeO.refl _)
   | (with_reducible exact LeO.none _)
   | (with_reducible refine LeO.ite ?_ ?_)
   | (with_reducible refine LeO.bind ?_ (fun _ => ?_))
   | exact ih0 _ _ _ _ _ _ _ _
   | exact ih1 _ _ _ _ _ _ _ _ _ _ _
   | exact ih2 _ _ _ _ _ _ _ _ _ _
   | exact budwoodlaw11_awake.mono _
   | exact budwoodref10_Size.mono _ _ _ _ _ _ _
   | exact valid_Check.mono _ _ _ _ _ _ _
   | exact valid_Module.mono _ _ _ _ _ _ _
   | exact LeO.none _
   | refine LeO.ite ?_ ?_
   | refine LeO.bind ?_ (fun _ => ?_)
  ·intro y0 y1 y2 y3 y4 y5 y6 y7 y8 y9 y10
   unfold budwoodlaw11_ValidMore.l0
   repeat' first
   | (with_reducible exact ih0 _ _ _ _ _ _ _ _)
   | (with_reducible exact ih1 _ _ _ _ _ _ _ _ _ _ _)
   | (with_reducible exact ih2 _ _ _ _ _ _ _ _ _ _)
   | (with_reducible exact budwoodlaw11_awake.mono _)
   | (with_reducible exact budwoodref10_Size.mono _ _ _ _ _ _ _)
   | (with_reducible exact valid_Check.mono _ _ _ _ _ _ _)
   | (with_reducible exact valid_Module.mono _ _ _ _ _ _ _)
   | (with_reducible exact LeO.refl _)
   | (with_reducible exact LeO.none _)
   | (with_reducible refine LeO.ite ?_ ?_)
   | (with_reducible refine LeO.bind ?_ (fun _ => ?_))
   | exact ih0 _ _ _ _ _ _ _ _
   | exact ih1 _ _ _ _ _ _ _ _ _ _ _
   | exact ih2 _ _ _ _ _ _ _ _ _ _
   | exact budwoodlaw11_awake.mono _
   | exact budwoodref10_Size.mono _ _ _ _ _ _ _
   | exact valid_Check.mono _ _ _ _ _ _ _
   | exact valid_Module.mono _ _ _ _ _ _ _
   | exact LeO.none _
   | refine LeO.ite ?_ ?_
   | refine LeO.bind ?_ (fun _ => ?_)
  ·intro y0 y1 y2 y3 y4 y5 y6 y7 y8 y9
   unfold budwoodlaw11_ValidMore.j2
   repeat' first
   | (with_reducible exact ih0 _ _ _ _ _ _ _ _)
   | (with_reducible exact ih1 _ _ _ _ _ _ _ _ _ _ _)
   | (with_reducible exact ih2 _ _ _ _ _ _ _ _ _ _)
   | (with_reducible exact budwoodlaw11_awake.mono _)
   | (with_reducible exact budwoodref10_Size.mono _ _ _ _ _ _ _)
   | (with_reducible exact valid_Check.mono _ _ _ _ _ _ _)
   | (with_reducible exact valid_Module.mono _ _ _ _ _ _ _)
   | (with_reducible exact LeO.refl _)
   | (with_reducible exact LeO.none _)
   | (with_reducible refine LeO.ite ?_ ?_)
   | (with_reducible refine LeO.bind ?_ (fun _ => ?_))
   | exact ih0 _ _ _ _ _ _ _ _
   | exact ih1 _ _ _ _ _ _ _ _ _ _ _
   | exact ih2 _ _ _ _ _ _ _ _ _ _
   | exact budwoodlaw11_awake.mono _
   | exact budwoodref10_Size.mono _ _ _ _ _ _ _
   | exact valid_Check.mono _ _ _ _ _ _ _
   | exact valid_Module.mono _ _ _ _ _ _ _
   | exact LeO.none _
   | refine LeO.ite ?_ ?_
   | refine LeO.bind ?_ (fun _ => ?_)
theorem budwoodlaw11_ValidMore.mono : ∀ a0 a1 a2 a3 a4 a5 a6 k, LeO (budwoodlaw11_ValidMore.f k a0 a1 a2 a3 a4 a5 a6) (budwoodlaw11_ValidMore.f (k + 1) a0 a1 a2 a3 a4 a5 a6) := by
 intro a0 a1 a2 a3 a4 a5 a6 k
 obtain ⟨ih0, ih1, ih2⟩ := budwoodlaw11_ValidMore.mono_l k
 unfold budwoodlaw11_ValidMore.f
 repeat' first
   | (with_reducible exact ih0 _ _ _ _ _ _ _ _)
   | (with_reducible exact ih1 _ _ _ _ _ _ _ _ _ _ _)
   | (with_reducible exact ih2 _ _ _ _ _ _ _ _ _ _)
   | (with_reducible exact budwoodlaw11_awake.mono _)
   | (with_reducible exact budwoodref10_Size.mono _ _ _ _ _ _ _)
   | (with_reducible exact valid_Check.mono _ _ _ _ _ _ _)
   | (with_reducible exact valid_Module.mono _ _ _ _ _ _ _)
   | (with_reducible exact LeO.refl _)
   | (with_reducible exact LeO.none _)
   | (with_reducible refine LeO.ite ?_ ?_)
   | (with_reducible refine LeO.bind ?_ (fun _ => ?_))
   | exact ih0 _ _ _ _ _ _ _ _
   | exact ih1 _ _ _ _ _ _ _ _ _ _ _
   | exact ih2 _ _ _ _ _ _ _ _ _ _
   | exact budwoodlaw11_awake.mono _
   | exact budwoodref10_Size.mono _ _ _ _ _ _ _
   | exact valid_Check.mono _ _ _ _ _ _ _
   | exact valid_Module.mono _ _ _ _ _ _ _
   | exact LeO.none _
   | refine LeO.ite ?_ ?_
   | refine LeO.bind ?_ (fun _ => ?_)
def budwoodlaw11_ValidMore.T19 : Bool × List (List Nat × List Nat) := (true, [([], []), ([0], [0]), ([1], [1]), ([2], [2]), ([3, 2, 2], [2, 3]), ([4, 2], [2, 4]), ([2], [2]), ([6, 2], [2, 6]), ([7, 2], [2, 7]), ([8, 2], [2, 8]), ([5, 9, 2], [2, 5, 9]), ([2, 10], [2, 10]), ([11, 4], [11]), ([12, 12], [12]), ([12, 13], [12, 13]), ([14, 13, 0, 1, 2, 3, 4, 5, 6, 7, 8, 9, 10, 11, 12, 13, 14], [14])])
def budwoodlaw11_ValidMore.B19 : List Nat := [0, 1, 3, 7, 15, 31, 7, 71, 199, 455, 1023, 2047, 4095, 8191, 16383, 32767]
theorem budwoodlaw11_ValidMore.tab19 : rtab .any (opsOf Tryd.f6 19) = budwoodlaw11_ValidMore.T19 := by kernel_rfl
theorem budwoodlaw11_ValidMore.bits19 : waitsOk budwoodlaw11_ValidMore.T19.2 budwoodlaw11_ValidMore.B19 = true := by kernel_rfl
set_option maxHeartbeats 8000000 in
set_option maxRecDepth 100000 in
theorem budwoodlaw11_ValidMore.calls (k : Nat) (a0_0 : ByteArray) (A0_1 : Option Addr) (c0_1 : Nat) (l0_1 : List ByteArray) (A0_2 : Option Addr) (c0_2 : Nat) (l0_2 : List ByteArray) (A0_3 : Option Addr) (c0_3 : Nat) (l0_3 : List Int) (A0_4 : Option Addr) (c0_4 : Nat) (l0_4 : List Int) (A0_5 : Option Addr) (c0_5 : Nat) (l0_5 : List (S43)) (a1 : ByteArray) (r : Bool) (w : World) (hG : Glob w) (hr0_1 : Kd.C Kd.string w A0_1 l0_1.length l0_1) (hc0_1 : l0_1.length ≤ c0_1) (hr0_2 : Kd.C Kd.string w A0_2 l0_2.length l0_2) (hc0_2 : l0_2.length ≤ c0_2) (hr0_3 : Kd.C (Kd.int .u32) w A0_3 l0_3.length l0_3) (hc0_3 : l0_3.length ≤ c0_3) (hr0_4 : Kd.C (Kd.int .u32) w A0_4 l0_4.length l0_4) (hc0_4 : l0_4.length ≤ c0_4) (hr0_5 : Kd.C k43 w A0_5 l0_5.length l0_5) (hc0_5 : l0_5.length ≤ c0_5) (h : budwoodlaw11_ValidMore.f k a0_0 l0_1 l0_2 l0_3 l0_4 l0_5 a1 = some r) :
  Calls Tryd.prog 6 #[.agg #[.string a0_0, .slice A0_1 l0_1.length c0_1, .slice A0_2 l0_2.length c0_2, .slice A0_3 l0_3.length c0_3, .slice A0_4 l0_4.length c0_4, .slice A0_5 l0_5.length c0_5], .string a1] w fun e w' => e = .returned (.bool r) ∧ Below w.heap.size w w' := by
 have hu26 := Tryd.underlying26
 have HR0_1 := Aside0.mk hr0_1
 have HC0_1 := Aside0.mk hc0_1
 clear hr0_1 hc0_1
 have HR0_2 := Aside0.mk hr0_2
 have HC0_2 := Aside0.mk hc0_2
 clear hr0_2 hc0_2
 have HR0_3 := Aside0.mk hr0_3
 have HC0_3 := Aside0.mk hc0_3
 clear hr0_3 hc0_3
 have HR0_4 := Aside0.mk hr0_4
 have HC0_4 := Aside0.mk hc0_4
 clear hr0_4 hc0_4
 have HR0_5 := Aside0.mk hr0_5
 have HC0_5 := Aside0.mk hc0_5
 clear hr0_5 hc0_5
 have HG := Aside0.mk hG
 clear hG
 have HB := Aside0.mk (Below.refl w.heap.size w)
 have H : ((budwoodref10_Size.f k a0_0 l0_1 l0_2 l0_3 l0_4 l0_5).bind fun t102 => (if t102 > 2000 then (budwoodlaw11_ValidMore.j0 k a1 true a0_0 l0_1 l0_2 l0_3 l0_4 l0_5) else ((valid_Check.f k a0_0 l0_1 l0_2 l0_3 l0_4 l0_5).bind fun t103 => (budwoodlaw11_ValidMore.j0 k a1 (t103 != 0) a0_0 l0_1 l0_2 l0_3 l0_4 l0_5)))) = some r := h
 clear h
 have HC3 := Aside0.mk H
 clear H
 go_enter Tryd.func6, Tryd.ntmps6
 go_upto_region 1 with (first | ((with_reducible refine gate_dst (N := 2) rfl ?_); (try (refine gate_guard (by rfl) ?_; dsimp only)); refine box_event ?hg (N := 2) ?hd (cs := #[.string a0_0, .slice A0_1 l0_1.length c0_1, .slice A0_2 l0_2.length c0_2, .slice A0_3 l0_3.length c0_3, .slice A0_4 l0_4.length c0_4, .slice A0_5 l0_5.length c0_5]) (t := 26) ?hr ?_; (case hd => rfl); (case hg => rfl); (case hr => first | (go_simp; done) | (go_simp; rfl)); intro gb101 hg w4 hbox hb; have n0_ := Aside0.mk (below_step (tg HB.out) hb); have n1_ := Aside0.mk (hbox); have n2_ := Aside0.mk ((by rw [hg]; exact (below_size (tg HB.out)) : w.heap.size ≤ gb101)); have n3_ := Aside0.mk ((by rw [hg]; exact (below_size (tg HB.out)) : w.heap.size ≤ gb101)); clear HB; have HB := n0_; have BK101 := n1_; have GW101 := n2_; have GE101 := n3_; clear n0_ n1_ n2_ n3_; clear hb hbox hg))
 (try simp only [Act.put, List.setIfInBounds_toArray, List.set_cons_zero, List.set_cons_succ])
 go_cut [18] (fun v18 wc => ∃ (kq : Nat) (x18_2 : Bool), v18 = .bool x18_2 ∧ Aside0 (budwoodlaw11_ValidMore.j0 kq a1 x18_2 a0_0 l0_1 l0_2 l0_3 l0_4 l0_5 = some r) ∧ Aside0 (kq ≤ k) ∧ Aside0 (wc.heap[gb101]? = some (.cells #[.string a0_0, (.slice A0_1 l0_1.length c0_1), (.slice A0_2 l0_2.length c0_2), (.slice A0_3 l0_3.length c0_3), (.slice A0_4 l0_4.length c0_4), (.slice A0_5 l0_5.length c0_5)] 26 (0, 0))) ∧ Aside0 (Below w.heap.size w wc))
 case first =>
  have H := HC3.out
  clear HC3
  replace H := Option.bind_eq_some_iff.mp H
  obtain ⟨t102, A50, H⟩ := H
  replace H : (if t102 > 2000 then (budwoodlaw11_ValidMore.j0 k a1 true a0_0 l0_1 l0_2 l0_3 l0_4 l0_5) else ((valid_Check.f k a0_0 l0_1 l0_2 l0_3 l0_4 l0_5).bind fun t103 => (budwoodlaw11_ValidMore.j0 k a1 (t103 != 0) a0_0 l0_1 l0_2 l0_3 l0_4 l0_5))) = some r := H
  have A5 := Aside0.mk A50
  clear A50
  by_cases c6 : t102 > 2000
  ·rw [if_pos c6] at H
   have c6b0 : decide (2000 < t102) = true := decide_eq_true c6
   clear c6
   (first | rw [c6b0] | (simp only [i64_w, i32_w]; rw [c6b0]) | skip)
   have H' := Aside0.mk H
   clear H
   have hcz7_0 := cz BK101.out 0 (.string a0_0)
   have hcz7_1 := cz BK101.out 1 (.slice A0_1 l0_1.length c0_1)
   have hcz7_2 := cz BK101.out 2 (.slice A0_2 l0_2.length c0_2)
   have hcz7_3 := cz BK101.out 3 (.slice A0_3 l0_3.length c0_3)
   have hcz7_4 := cz BK101.out 4 (.slice A0_4 l0_4.length c0_4)
   have hcz7_5 := cz BK101.out 5 (.slice A0_5 l0_5.length c0_5)
   have hfz7_0 := blk_frozen BK101.out 0
   have hfz7_1 := blk_frozen BK101.out 1
   have hfz7_2 := blk_frozen BK101.out 2
   have hfz7_3 := blk_frozen BK101.out 3
   have hfz7_4 := blk_frozen BK101.out 4
   have hfz7_5 := blk_frozen BK101.out 5
   go_wp2_with (first | ((with_reducible refine gate_callee (f := 13) rfl ?_); refine goesL_ (some 12) rfl rfl Tryd.func13 (by kernel_rfl) rfl #[.agg #[.string a0_0, .slice A0_1 l0_1.length c0_1, .slice A0_2 l0_2.length c0_2, .slice A0_3 l0_3.length c0_3, .slice A0_4 l0_4.length c0_4, .slice A0_5 l0_5.length c0_5]] rfl tm ?_; (with_reducible refine (budwoodref10_Size.calls k a0_0 _ _ l0_1 _ _ l0_2 _ _ l0_3 _ _ l0_4 _ _ l0_5 t102 _ ?side1 ?side2 ?side3 ?side4 ?side5 ?side6 ?side7 ?side8 ?side9 ?side10 A5.out).mono ?_); (case side1 => exact tc (Kd.C_below HR0_1.out HB.out)); (case side2 => exact HC0_1.out); (case side3 => exact tc (Kd.C_below HR0_2.out HB.out)); (case side4 => exact HC0_2.out); (case side5 => exact tc (Kd.C_below HR0_3.out HB.out)); (case side6 => exact HC0_3.out); (case side7 => exact tc (Kd.C_below HR0_4.out HB.out)); (case side8 => exact HC0_4.out); (case side9 => exact tc (Kd.C_below HR0_5.out HB.out)); (case side10 => exact HC0_5.out); rintro e w8 ⟨rfl, hb⟩; refine ⟨_, rfl, ?_⟩; replace BK101 := ba BK101.out hb; replace HB := Aside0.mk (below_step (tg1 HB.out GE101.out) hb); (try clear hb); (try clear hb2); (try clear hk); (try clear hi)))
   go_meet
   case rel => exact ⟨_, (true), (by first | rfl | (simp; done) | (simp [*]; done)), H', ⟨by first | omega | exact Nat.le_refl _⟩, ⟨by (with_reducible repeat (first | refine blk_drewN ?_ _ | refine blk_drew ?_ | refine blk_alloc ?_ _)); exact BK101.out⟩, ⟨tg1 HB.out GE101.out⟩⟩
  ·rw [if_neg c6] at H
   have c6b0 : decide (2000 < t102) = false := decide_eq_false c6
   clear c6
   (first | rw [c6b0] | (simp only [i64_w, i32_w]; rw [c6b0]) | skip)
   replace H := Option.bind_eq_some_iff.mp H
   obtain ⟨t103, A90, H⟩ := H
   replace H : (budwoodlaw11_ValidMore.j0 k a1 (t103 != 0) a0_0 l0_1 l0_2 l0_3 l0_4 l0_5) = some r := H
   have A9 := Aside0.mk A90
   clear A90
   have H' := Aside0.mk H
   clear H
   have hcz10_0 := cz BK101.out 0 (.string a0_0)
   have hcz10_1 := cz BK101.out 1 (.slice A0_1 l0_1.length c0_1)
   have hcz10_2 := cz BK101.out 2 (.slice A0_2 l0_2.length c0_2)
   have hcz10_3 := cz BK101.out 3 (.slice A0_3 l0_3.length c0_3)
   have hcz10_4 := cz BK101.out 4 (.slice A0_4 l0_4.length c0_4)
   have hcz10_5 := cz BK101.out 5 (.slice A0_5 l0_5.length c0_5)
   have hfz10_0 := blk_frozen BK101.out 0
   have hfz10_1 := blk_frozen BK101.out 1
   have hfz10_2 := blk_frozen BK101.out 2
   have hfz10_3 := blk_frozen BK101.out 3
   have hfz10_4 := blk_frozen BK101.out 4
   have hfz10_5 := blk_frozen BK101.out 5
   go_wp2_with (first | ((with_reducible refine gate_callee (f := 13) rfl ?_); refine goesL_ (some 12) rfl rfl Tryd.func13 (by kernel_rfl) rfl #[.agg #[.string a0_0, .slice A0_1 l0_1.length c0_1, .slice A0_2 l0_2.length c0_2, .slice A0_3 l0_3.length c0_3, .slice A0_4 l0_4.length c0_4, .slice A0_5 l0_5.length c0_5]] rfl tm ?_; (with_reducible refine (budwoodref10_Size.calls k a0_0 _ _ l0_1 _ _ l0_2 _ _ l0_3 _ _ l0_4 _ _ l0_5 t102 _ ?side1 ?side2 ?side3 ?side4 ?side5 ?side6 ?side7 ?side8 ?side9 ?side10 A5.out).mono ?_); (case side1 => exact tc (Kd.C_below HR0_1.out HB.out)); (case side2 => exact HC0_1.out); (case side3 => exact tc (Kd.C_below HR0_2.out HB.out)); (case side4 => exact HC0_2.out); (case side5 => exact tc (Kd.C_below HR0_3.out HB.out)); (case side6 => exact HC0_3.out); (case side7 => exact tc (Kd.C_below HR0_4.out HB.out)); (case side8 => exact HC0_4.out); (case side9 => exact tc (Kd.C_below HR0_5.out HB.out)); (case side10 => exact HC0_5.out); rintro e w11 ⟨rfl, hb⟩; refine ⟨_, rfl, ?_⟩; replace BK101 := ba BK101.out hb; replace HB := Aside0.mk (below_step (tg1 HB.out GE101.out) hb); (try clear hb); (try clear hb2); (try clear hk); (try clear hi); have hcz12_0 := cz BK101.out 0 (.string a0_0); have hcz12_1 := cz BK101.out 1 (.slice A0_1 l0_1.length c0_1); have hcz12_2 := cz BK101.out 2 (.slice A0_2 l0_2.length c0_2); have hcz12_3 := cz BK101.out 3 (.slice A0_3 l0_3.length c0_3); have hcz12_4 := cz BK101.out 4 (.slice A0_4 l0_4.length c0_4); have hcz12_5 := cz BK101.out 5 (.slice A0_5 l0_5.length c0_5); have hfz12_0 := blk_frozen BK101.out 0; have hfz12_1 := blk_frozen BK101.out 1; have hfz12_2 := blk_frozen BK101.out 2; have hfz12_3 := blk_frozen BK101.out 3; have hfz12_4 := blk_frozen BK101.out 4; have hfz12_5 := blk_frozen BK101.out 5) | (go_at_call 18; (with_reducible refine (valid_Check.calls k a0_0 _ _ l0_1 _ _ l0_2 _ _ l0_3 _ _ l0_4 _ _ l0_5 t103 _ ?side11 ?side1 ?side2 ?side3 ?side4 ?side5 ?side6 ?side7 ?side8 ?side9 ?side10 A9.out).mono ?_); (case side1 => exact tc (Kd.C_below HR0_1.out HB.out)); (case side2 => exact HC0_1.out); (case side3 => exact tc (Kd.C_below HR0_2.out HB.out)); (case side4 => exact HC0_2.out); (case side5 => exact tc (Kd.C_below HR0_3.out HB.out)); (case side6 => exact HC0_3.out); (case side7 => exact tc (Kd.C_below HR0_4.out HB.out)); (case side8 => exact HC0_4.out); (case side9 => exact tc (Kd.C_below HR0_5.out HB.out)); (case side10 => exact HC0_5.out); (case side11 => first | exact HG.out | exact Glob.below HG.out (tg1 HB.out GE101.out)); rintro e w13 ⟨rfl, hb⟩; replace BK101 := ba BK101.out hb; replace HB := Aside0.mk (below_step (tg1 HB.out GE101.out) hb); (try clear hb); (try clear hb2); (try clear hk); (try clear hi)))
   go_meet
   case rel => exact ⟨_, ((t103 != 0)), (by first | rfl | (simp; done) | (simp [*]; done)), H', ⟨by first | omega | exact Nat.le_refl _⟩, ⟨by (with_reducible repeat (first | refine blk_drewN ?_ _ | refine blk_drew ?_ | refine blk_alloc ?_ _)); exact BK101.out⟩, ⟨tg1 HB.out GE101.out⟩⟩
 case rest =>
  clear HC3
  try clear c1
  try clear p2
  try clear c6
  try clear c6b0
  try clear c13
  try clear hcz10_0
  try clear hcz10_1
  try clear hcz10_2
  try clear hcz10_3
  try clear hcz10_4
  try clear hcz10_5
  try clear hcz12_0
  try clear hcz12_1
  try clear hcz12_2
  try clear hcz12_3
  try clear hcz12_4
  try clear hcz12_5
  try clear hcz7_0
  try clear hcz7_1
  try clear hcz7_2
  try clear hcz7_3
  try clear hcz7_4
  try clear hcz7_5
  try clear hfz10_0
  try clear hfz10_1
  try clear hfz10_2
  try clear hfz10_3
  try clear hfz10_4
  try clear hfz10_5
  try clear hfz12_0
  try clear hfz12_1
  try clear hfz12_2
  try clear hfz12_3
  try clear hfz12_4
  try clear hfz12_5
  try clear hfz7_0
  try clear hfz7_1
  try clear hfz7_2
  try clear hfz7_3
  try clear hfz7_4
  try clear hfz7_5
  obtain ⟨kq, x18_2, rfl, HA, HJ2, BK101, HB⟩ := hcut
  cases kq with
  | zero => exact absurd HA.out (by simp [budwoodlaw11_ValidMore.j0])
  | succ kj2 =>
   have H := HA.out
   clear HA
   simp only [budwoodlaw11_ValidMore.j0] at H
   by_cases c14 : x18_2 = true
   ·subst c14
    have H1 : ((budwoodlaw11_awake.f kj2).bind fun t104 => (some t104)) = some r := by rw [if_pos rfl] at H; exact H
    clear H
    have H := H1
    clear H1
    replace H := Option.bind_eq_some_iff.mp H
    obtain ⟨t104, A150, H⟩ := H
    replace H : (some t104) = some r := H
    have A15 := Aside0.mk A150
    clear A150
    obtain rfl := Option.some.inj H
    go_wp2_with (first | ((with_reducible refine gate_callee (f := 14) rfl ?_); refine goesL_ (some 19) rfl rfl Tryd.func14 (by kernel_rfl) rfl #[] rfl tm ?_; (with_reducible refine (budwoodlaw11_awake.calls kj2  t104 _ ?side1 A15.out).mono ?_); (case side1 => first | exact HG.out | exact Glob.below HG.out (tg1 HB.out GE101.out)); rintro e w16 ⟨rfl, hb⟩; refine ⟨_, rfl, ?_⟩; replace BK101 := ba BK101.out hb; replace HB := Aside0.mk (below_step (tg1 HB.out GE101.out) hb); (try clear hb); (try clear hb2); (try clear hk); (try clear hi)))
    go_ret
    exact ⟨by first | rfl | (simp [errW_none, errW_some] <;> rfl) | (simp [*, errW_none, errW_some] <;> rfl), tg1 HB.out GE101.out⟩
   ·replace c14 := Bool.eq_false_iff.mpr c14
    subst c14
    have H1 : ((budwoodref10_Copy.f a0_0 l0_1 l0_2 l0_3 l0_4 l0_5).bind fun bt105 => (if bt105.2.2.1.length < 8796093022208 then ((valid_Module.f kj2 bt105.1 bt105.2.1 (bt105.2.2.1 ++ [a1]) bt105.2.2.2.1 bt105.2.2.2.2.1 bt105.2.2.2.2.2).bind fun bt125 => (budwoodlaw11_ValidMore.l0 kj2 a1 bt125.1 bt125.2 false 0 a0_0 l0_1 l0_2 l0_3 l0_4 l0_5)) else (none))) = some r := by rw [if_neg (show ¬ (false = true) by decide)] at H; exact H
    clear H
    have H := H1
    clear H1
    replace H := Option.bind_eq_some_iff.mp H
    obtain ⟨⟨t105, t106, t109, t112, t115, t118⟩, A170, H⟩ := H
    replace H : (if t109.length < 8796093022208 then ((valid_Module.f kj2 t105 t106 (t109 ++ [a1]) t112 t115 t118).bind fun bt125 => (budwoodlaw11_ValidMore.l0 kj2 a1 bt125.1 bt125.2 false 0 a0_0 l0_1 l0_2 l0_3 l0_4 l0_5)) else (none)) = some r := H
    have A17 := Aside0.mk A170
    clear A170
    by_cases c18 : t109.length < 8796093022208
    ·rw [if_pos c18] at H
     have LMc18 := Aside0.mk c18
     clear c18
     obtain ⟨y122, hy122⟩ : ∃ y_ : List ByteArray, y_ = (t109 ++ [a1]) := ⟨_, rfl⟩
     replace H : ((valid_Module.f kj2 t105 t106 y122 t112 t115 t118).bind fun bt125 => (budwoodlaw11_ValidMore.l0 kj2 a1 bt125.1 bt125.2 false 0 a0_0 l0_1 l0_2 l0_3 l0_4 l0_5)) = some r := by first | (rw [hy122]; with_reducible exact H) | (have H2_ := (Option.bind_some _ _).symm.trans H; rw [hy122]; with_reducible exact H2_) | (have H2_ := (Option.bind_some _ _).symm.trans H; with_reducible exact H2_) | with_reducible exact H | (rw [hy122]; exact H) | exact H
     have Ny122 := Aside0.mk hy122
     clear hy122
     replace H := Option.bind_eq_some_iff.mp H
     obtain ⟨⟨t125, t126⟩, A190, H⟩ := H
     replace H : (budwoodlaw11_ValidMore.l0 kj2 a1 t125 t126 false 0 a0_0 l0_1 l0_2 l0_3 l0_4 l0_5) = some r := H
     have A19 := Aside0.mk A190
     clear A190
     have H' := Aside0.mk H
     clear H
     have hcz20_0 := cz BK101.out 0 (.string a0_0)
     have hcz20_1 := cz BK101.out 1 (.slice A0_1 l0_1.length c0_1)
     have hcz20_2 := cz BK101.out 2 (.slice A0_2 l0_2.length c0_2)
     have hcz20_3 := cz BK101.out 3 (.slice A0_3 l0_3.length c0_3)
     have hcz20_4 := cz BK101.out 4 (.slice A0_4 l0_4.length c0_4)
     have hcz20_5 := cz BK101.out 5 (.slice A0_5 l0_5.length c0_5)
     have hfz20_0 := blk_frozen BK101.out 0
     have hfz20_1 := blk_frozen BK101.out 1
     have hfz20_2 := blk_frozen BK101.out 2
     have hfz20_3 := blk_frozen BK101.out 3
     have hfz20_4 := blk_frozen BK101.out 4
     have hfz20_5 := blk_frozen BK101.out 5
     go_wp2_with (first | ((with_reducible refine gate_callee (f := 15) rfl ?_); refine goesL_ (some 21) rfl rfl Tryd.func15 (by kernel_rfl) rfl #[.agg #[.string a0_0, .slice A0_1 l0_1.length c0_1, .slice A0_2 l0_2.length c0_2, .slice A0_3 l0_3.length c0_3, .slice A0_4 l0_4.length c0_4, .slice A0_5 l0_5.length c0_5]] rfl tm ?_; (with_reducible refine (budwoodref10_Copy.calls a0_0 _ _ l0_1 _ _ l0_2 _ _ l0_3 _ _ l0_4 _ _ l0_5 t105 t106 t109 t112 t115 t118 _ ?side1 ?side2 ?side3 ?side4 ?side5 ?side6 ?side7 ?side8 ?side9 ?side10 A17.out).mono ?_); (case side1 => exact tc (Kd.C_below HR0_1.out HB.out)); (case side2 => exact HC0_1.out); (case side3 => exact tc (Kd.C_below HR0_2.out HB.out)); (case side4 => exact HC0_2.out); (case side5 => exact tc (Kd.C_below HR0_3.out HB.out)); (case side6 => exact HC0_3.out); (case side7 => exact tc (Kd.C_below HR0_4.out HB.out)); (case side8 => exact HC0_4.out); (case side9 => exact tc (Kd.C_below HR0_5.out HB.out)); (case side10 => exact HC0_5.out); rintro e w21 ⟨v107, v110, v113, v116, v119, rfl, ho0, ho1, ho2, ho3, ho4, hb⟩; refine ⟨_, rfl, ?_⟩; have HO108 := Aside0.mk (Kd.R_lower ho0 (below_size (tg1 HB.out GE101.out))); have HO111 := Aside0.mk (Kd.R_lower ho1 (below_size (tg1 HB.out GE101.out))); have HO114 := Aside0.mk (Kd.R_lower ho2 (below_size (tg1 HB.out GE101.out))); have HO117 := Aside0.mk (Kd.R_lower ho3 (below_size (tg1 HB.out GE101.out))); have HO120 := Aside0.mk (Kd.R_lower ho4 (below_size (tg1 HB.out GE101.out))); replace BK101 := ba BK101.out hb; replace HB := Aside0.mk (below_step (tg1 HB.out GE101.out) hb); (try clear hb); (try clear hb2); (try clear hk); (try clear hi); (try clear ho0); (try clear ho1); (try clear ho2); (try clear ho3); (try clear ho4)) | ((with_reducible refine gate_dst (N := 5) rfl ?_); (try (refine gate_guard (by rfl) ?_; dsimp only)); refine box_event ?hg (N := 5) ?hd (cs := #[.string (⟨#[]⟩ : ByteArray), .slice none 0 0, .slice none 0 0, .slice none 0 0, .slice none 0 0, .slice none 0 0]) (t := 26) ?hr ?_; (case hd => rfl); (case hg => rfl); (case hr => first | (go_simp; done) | (go_simp; rfl)); intro gb121 hg w22 hbox hb; have n0_ := ra HO108.out hb; have n1_ := ra HO111.out hb; have n2_ := ra HO114.out hb; have n3_ := ra HO117.out hb; have n4_ := ra HO120.out hb; have n5_ := ba BK101.out hb; have n6_ := Aside0.mk (below_step (tg1 HB.out GE101.out) hb); have n7_ := Aside0.mk (hbox); have n8_ := Aside0.mk ((by rw [hg]; exact (below_size (tg1 HB.out GE101.out)) : w.heap.size ≤ gb121)); have n9_ := Aside0.mk ((by rw [hg]; exact (below_size (tg1 HB.out GE101.out)) : w.heap.size ≤ gb121)); have n10_ := Aside0.mk ((by rw [hg]; exact Nat.ne_of_lt (blk_lt (g := gb101) (o := .cells #[.string a0_0, .slice A0_1 l0_1.length c0_1, .slice A0_2 l0_2.length c0_2, .slice A0_3 l0_3.length c0_3, .slice A0_4 l0_4.length c0_4, .slice A0_5 l0_5.length c0_5] 26 (0, 0)) (tb BK101.out)) : gb101 ≠ gb121)); have n11_ := Aside0.mk ((by rw [hg]; exact Nat.ne_of_gt (blk_lt (g := gb101) (o := .cells #[.string a0_0, .slice A0_1 l0_1.length c0_1, .slice A0_2 l0_2.length c0_2, .slice A0_3 l0_3.length c0_3, .slice A0_4 l0_4.length c0_4, .slice A0_5 l0_5.length c0_5] 26 (0, 0)) (tb BK101.out)) : gb121 ≠ gb101)); clear HO108; clear HO111; clear HO114; clear HO117; clear HO120; clear BK101; clear HB; have HO108 := n0_; have HO111 := n1_; have HO114 := n2_; have HO117 := n3_; have HO120 := n4_; have BK101 := n5_; have HB := n6_; have BK121 := n7_; have GW121 := n8_; have GE121 := n9_; have NB101_121 := n10_; have NB121_101 := n11_; clear n0_ n1_ n2_ n3_ n4_ n5_ n6_ n7_ n8_ n9_ n10_ n11_; clear hb hbox hg; have hnb23 := NB121_101.out; have hnc23 := NB101_121.out; have hcz24_0 := cz BK121.out 0 (.string (⟨#[]⟩ : ByteArray)); have hcz24_1 := cz BK121.out 1 (.slice none 0 0); have hcz24_2 := cz BK121.out 2 (.slice none 0 0); have hcz24_3 := cz BK121.out 3 (.slice none 0 0); have hcz24_4 := cz BK121.out 4 (.slice none 0 0); have hcz24_5 := cz BK121.out 5 (.slice none 0 0); have hfz24_0 := blk_frozen BK121.out 0; have hfz24_1 := blk_frozen BK121.out 1; have hfz24_2 := blk_frozen BK121.out 2; have hfz24_3 := blk_frozen BK121.out 3; have hfz24_4 := blk_frozen BK121.out 4; have hfz24_5 := blk_frozen BK121.out 5; obtain ⟨Ao25, co25, eo25⟩ := Kd.R_slice HO108.out; subst eo25; obtain ⟨Ao26, co26, eo26⟩ := Kd.R_slice HO111.out; subst eo26; obtain ⟨Ao27, co27, eo27⟩ := Kd.R_slice HO114.out; subst eo27; obtain ⟨Ao28, co28, eo28⟩ := Kd.R_slice HO117.out; subst eo28; obtain ⟨Ao29, co29, eo29⟩ := Kd.R_slice HO120.out; subst eo29) | ((with_reducible refine gate_builtin (b := .append) (xs := #[.tmp 23, .tmp 25]) rfl ?_); (try (refine gate_guard (by rfl) ?_; dsimp only)); at_builtin; refine Kd.R_append Kd.string (w0 := w) w.heap.size rfl (.tmp 23) (.tmp 25) 22 9 (.string ⟨#[]⟩) 16 rfl Tryd.underlying22 info9 rfl (by decide) (by omega) (.slice Ao26 t109.length co26) t109 a1 [.string a1] (fun k_ => some k_ ≠ (.slice Ao25 t106.length co25 : Value).ownBlock) (fun _ => False) rfl (by first | (go_simp; done) | (go_simp; rfl)) ?aP (fun _ hk => hk.elim) ?aF ?aO ?aB ?aS ?aL ?_; (case aP => exact rfl); (case aB => exact (tg2 HB.out GE101.out GE121.out)); (case aF => exact (fun k_ hk => Kd.fresh' (Kd.R_lt (by (with_reducible repeat (first | apply Kd.R_alloc | apply Kd.R_drewN | apply Kd.R_drew)); exact (Kd.R_mono (Kd.R_far (p := ⟨gb121, 5, none⟩) (Kd.R_far (p := ⟨gb121, 4, none⟩) (Kd.R_far (p := ⟨gb121, 3, none⟩) (Kd.R_far (p := ⟨gb121, 2, none⟩) (Kd.R_far (p := ⟨gb121, 1, none⟩) (Kd.R_far (p := ⟨gb121, 0, none⟩) (Kd.R_types HO108.out BK121.out (by decide)) (fun _ hk => hk.2) (.string t105)) (fun _ hk => hk.2) (.slice Ao25 t106.length co25)) (fun _ hk => hk.2) (.slice Ao26 t109.length co26)) (fun _ hk => hk.2) (.slice Ao27 t112.length co27)) (fun _ hk => hk.2) (.slice Ao28 t115.length co28)) (fun _ hk => hk.2) (.slice Ao29 t118.length co29)) (fun _ h_ => h_.1)))) k_ hk)); (case aO => exact (by (with_reducible repeat (first | apply Kd.R_alloc | apply Kd.R_drewN | apply Kd.R_drew)); exact Kd.R_mono (Kd.R_far (p := ⟨gb121, 5, none⟩) (Kd.R_far (p := ⟨gb121, 4, none⟩) (Kd.R_far (p := ⟨gb121, 3, none⟩) (Kd.R_far (p := ⟨gb121, 2, none⟩) (Kd.R_far (p := ⟨gb121, 1, none⟩) (Kd.R_far (p := ⟨gb121, 0, none⟩) (Kd.R_types HO111.out BK121.out (by decide)) (fun _ hk => hk.2) (.string t105)) (fun _ hk => hk.2) (.slice Ao25 t106.length co25)) (fun _ hk => hk.2) (.slice Ao26 t109.length co26)) (fun _ hk => hk.2) (.slice Ao27 t112.length co27)) (fun _ hk => hk.2) (.slice Ao28 t115.length co28)) (fun _ hk => hk.2) (.slice Ao29 t118.length co29)) (fun _ hk => hk.1))); (case aS => exact (below_size (tg2 HB.out GE101.out GE121.out))); (case aL => have := LMc18.out; omega); intro v123 w30 ho hb hg hat; rw [← Ny122.out] at ho; have n0_ := Aside0.mk (blk_grown (g := gb101) (o := .cells #[.string a0_0, .slice A0_1 l0_1.length c0_1, .slice A0_2 l0_2.length c0_2, .slice A0_3 l0_3.length c0_3, .slice A0_4 l0_4.length c0_4, .slice A0_5 l0_5.length c0_5] 26 (0, 0)) (by (with_reducible repeat (first | refine blk_drewN ?_ _ | refine blk_drew ?_ | refine blk_alloc ?_ _)); refine blk_far ?_ NB101_121.out _; (with_reducible repeat (first | refine blk_drewN ?_ _ | refine blk_drew ?_ | refine blk_alloc ?_ _)); refine blk_far ?_ NB101_121.out _; (with_reducible repeat (first | refine blk_drewN ?_ _ | refine blk_drew ?_ | refine blk_alloc ?_ _)); refine blk_far ?_ NB101_121.out _; (with_reducible repeat (first | refine blk_drewN ?_ _ | refine blk_drew ?_ | refine blk_alloc ?_ _)); refine blk_far ?_ NB101_121.out _; (with_reducible repeat (first | refine blk_drewN ?_ _ | refine blk_drew ?_ | refine blk_alloc ?_ _)); refine blk_far ?_ NB101_121.out _; (with_reducible repeat (first | refine blk_drewN ?_ _ | refine blk_drew ?_ | refine blk_alloc ?_ _)); refine blk_far ?_ NB101_121.out _; (with_reducible repeat (first | refine blk_drewN ?_ _ | refine blk_drew ?_ | refine blk_alloc ?_ _)); exact BK101.out) hg (Kd.R_ne HO111.out BK101.out (by decide))); have n1_ := Aside0.mk (Kd.R_after (ok := (fun _ => True)) (by (with_reducible repeat (first | apply Kd.R_alloc | apply Kd.R_drewN | apply Kd.R_drew)); exact Kd.R_mono (Kd.R_far (p := ⟨gb121, 5, none⟩) (Kd.R_far (p := ⟨gb121, 4, none⟩) (Kd.R_far (p := ⟨gb121, 3, none⟩) (Kd.R_far (p := ⟨gb121, 2, none⟩) (Kd.R_far (p := ⟨gb121, 1, none⟩) (Kd.R_far (p := ⟨gb121, 0, none⟩) (Kd.R_types HO108.out BK121.out (by decide)) (fun _ hk => hk.2) (.string t105)) (fun _ hk => hk.2) (.slice Ao25 t106.length co25)) (fun _ hk => hk.2) (.slice Ao26 t109.length co26)) (fun _ hk => hk.2) (.slice Ao27 t112.length co27)) (fun _ hk => hk.2) (.slice Ao28 t115.length co28)) (fun _ hk => hk.2) (.slice Ao29 t118.length co29)) (fun _ hk => ⟨trivial, hk.1⟩)) hg hat); have n2_ := Aside0.mk (Kd.R_over' (by (with_reducible repeat (first | apply Kd.R_alloc | apply Kd.R_drewN | apply Kd.R_drew)); exact (Kd.R_mono (Kd.R_far (p := ⟨gb121, 5, none⟩) (Kd.R_far (p := ⟨gb121, 4, none⟩) (Kd.R_far (p := ⟨gb121, 3, none⟩) (Kd.R_far (p := ⟨gb121, 2, none⟩) (Kd.R_far (p := ⟨gb121, 1, none⟩) (Kd.R_far (p := ⟨gb121, 0, none⟩) (Kd.R_types HO114.out BK121.out (by decide)) (fun _ hk => hk.2) (.string t105)) (fun _ hk => hk.2) (.slice Ao25 t106.length co25)) (fun _ hk => hk.2) (.slice Ao26 t109.length co26)) (fun _ hk => hk.2) (.slice Ao27 t112.length co27)) (fun _ hk => hk.2) (.slice Ao28 t115.length co28)) (fun _ hk => hk.2) (.slice Ao29 t118.length co29)) (fun _ h_ => h_.1))) (Kd.R_typed (by (with_reducible repeat (first | apply Kd.R_alloc | apply Kd.R_drewN | apply Kd.R_drew)); exact (Kd.R_mono (Kd.R_far (p := ⟨gb121, 5, none⟩) (Kd.R_far (p := ⟨gb121, 4, none⟩) (Kd.R_far (p := ⟨gb121, 3, none⟩) (Kd.R_far (p := ⟨gb121, 2, none⟩) (Kd.R_far (p := ⟨gb121, 1, none⟩) (Kd.R_far (p := ⟨gb121, 0, none⟩) (Kd.R_types HO111.out BK121.out (by decide)) (fun _ hk => hk.2) (.string t105)) (fun _ hk => hk.2) (.slice Ao25 t106.length co25)) (fun _ hk => hk.2) (.slice Ao26 t109.length co26)) (fun _ hk => hk.2) (.slice Ao27 t112.length co27)) (fun _ hk => hk.2) (.slice Ao28 t115.length co28)) (fun _ hk => hk.2) (.slice Ao29 t118.length co29)) (fun _ h_ => h_.1)))) (by decide) hg); have n3_ := Aside0.mk (Kd.R_over' (by (with_reducible repeat (first | apply Kd.R_alloc | apply Kd.R_drewN | apply Kd.R_drew)); exact (Kd.R_mono (Kd.R_far (p := ⟨gb121, 5, none⟩) (Kd.R_far (p := ⟨gb121, 4, none⟩) (Kd.R_far (p := ⟨gb121, 3, none⟩) (Kd.R_far (p := ⟨gb121, 2, none⟩) (Kd.R_far (p := ⟨gb121, 1, none⟩) (Kd.R_far (p := ⟨gb121, 0, none⟩) (Kd.R_types HO117.out BK121.out (by decide)) (fun _ hk => hk.2) (.string t105)) (fun _ hk => hk.2) (.slice Ao25 t106.length co25)) (fun _ hk => hk.2) (.slice Ao26 t109.length co26)) (fun _ hk => hk.2) (.slice Ao27 t112.length co27)) (fun _ hk => hk.2) (.slice Ao28 t115.length co28)) (fun _ hk => hk.2) (.slice Ao29 t118.length co29)) (fun _ h_ => h_.1))) (Kd.R_typed (by (with_reducible repeat (first | apply Kd.R_alloc | apply Kd.R_drewN | apply Kd.R_drew)); exact (Kd.R_mono (Kd.R_far (p := ⟨gb121, 5, none⟩) (Kd.R_far (p := ⟨gb121, 4, none⟩) (Kd.R_far (p := ⟨gb121, 3, none⟩) (Kd.R_far (p := ⟨gb121, 2, none⟩) (Kd.R_far (p := ⟨gb121, 1, none⟩) (Kd.R_far (p := ⟨gb121, 0, none⟩) (Kd.R_types HO111.out BK121.out (by decide)) (fun _ hk => hk.2) (.string t105)) (fun _ hk => hk.2) (.slice Ao25 t106.length co25)) (fun _ hk => hk.2) (.slice Ao26 t109.length co26)) (fun _ hk => hk.2) (.slice Ao27 t112.length co27)) (fun _ hk => hk.2) (.slice Ao28 t115.length co28)) (fun _ hk => hk.2) (.slice Ao29 t118.length co29)) (fun _ h_ => h_.1)))) (by decide) hg); have n4_ := Aside0.mk (Kd.R_over' (by (with_reducible repeat (first | apply Kd.R_alloc | apply Kd.R_drewN | apply Kd.R_drew)); exact (Kd.R_mono (Kd.R_far (p := ⟨gb121, 5, none⟩) (Kd.R_far (p := ⟨gb121, 4, none⟩) (Kd.R_far (p := ⟨gb121, 3, none⟩) (Kd.R_far (p := ⟨gb121, 2, none⟩) (Kd.R_far (p := ⟨gb121, 1, none⟩) (Kd.R_far (p := ⟨gb121, 0, none⟩) (Kd.R_types HO120.out BK121.out (by decide)) (fun _ hk => hk.2) (.string t105)) (fun _ hk => hk.2) (.slice Ao25 t106.length co25)) (fun _ hk => hk.2) (.slice Ao26 t109.length co26)) (fun _ hk => hk.2) (.slice Ao27 t112.length co27)) (fun _ hk => hk.2) (.slice Ao28 t115.length co28)) (fun _ hk => hk.2) (.slice Ao29 t118.length co29)) (fun _ h_ => h_.1))) (Kd.R_typed (by (with_reducible repeat (first | apply Kd.R_alloc | apply Kd.R_drewN | apply Kd.R_drew)); exact (Kd.R_mono (Kd.R_far (p := ⟨gb121, 5, none⟩) (Kd.R_far (p := ⟨gb121, 4, none⟩) (Kd.R_far (p := ⟨gb121, 3, none⟩) (Kd.R_far (p := ⟨gb121, 2, none⟩) (Kd.R_far (p := ⟨gb121, 1, none⟩) (Kd.R_far (p := ⟨gb121, 0, none⟩) (Kd.R_types HO111.out BK121.out (by decide)) (fun _ hk => hk.2) (.string t105)) (fun _ hk => hk.2) (.slice Ao25 t106.length co25)) (fun _ hk => hk.2) (.slice Ao26 t109.length co26)) (fun _ hk => hk.2) (.slice Ao27 t112.length co27)) (fun _ hk => hk.2) (.slice Ao28 t115.length co28)) (fun _ hk => hk.2) (.slice Ao29 t118.length co29)) (fun _ h_ => h_.1)))) (by decide) hg); have n5_ := Aside0.mk (blk_grown (g := gb121) (o := .cells #[.string t105, .slice Ao25 t106.length co25, .slice Ao26 t109.length co26, .slice Ao27 t112.length co27, .slice Ao28 t115.length co28, .slice Ao29 t118.length co29] 26 (0, 0)) (by (with_reducible repeat (first | refine blk_drewN ?_ _ | refine blk_drew ?_ | refine blk_alloc ?_ _)); refine blk_put (cs := #[.string t105, .slice Ao25 t106.length co25, .slice Ao26 t109.length co26, .slice Ao27 t112.length co27, .slice Ao28 t115.length co28, .slice none 0 0]) ?_ 5 _ rfl; (with_reducible repeat (first | refine blk_drewN ?_ _ | refine blk_drew ?_ | refine blk_alloc ?_ _)); refine blk_put (cs := #[.string t105, .slice Ao25 t106.length co25, .slice Ao26 t109.length co26, .slice Ao27 t112.length co27, .slice none 0 0, .slice none 0 0]) ?_ 4 _ rfl; (with_reducible repeat (first | refine blk_drewN ?_ _ | refine blk_drew ?_ | refine blk_alloc ?_ _)); refine blk_put (cs := #[.string t105, .slice Ao25 t106.length co25, .slice Ao26 t109.length co26, .slice none 0 0, .slice none 0 0, .slice none 0 0]) ?_ 3 _ rfl; (with_reducible repeat (first | refine blk_drewN ?_ _ | refine blk_drew ?_ | refine blk_alloc ?_ _)); refine blk_put (cs := #[.string t105, .slice Ao25 t106.length co25, .slice none 0 0, .slice none 0 0, .slice none 0 0, .slice none 0 0]) ?_ 2 _ rfl; (with_reducible repeat (first | refine blk_drewN ?_ _ | refine blk_drew ?_ | refine blk_alloc ?_ _)); refine blk_put (cs := #[.string t105, .slice none 0 0, .slice none 0 0, .slice none 0 0, .slice none 0 0, .slice none 0 0]) ?_ 1 _ rfl; (with_reducible repeat (first | refine blk_drewN ?_ _ | refine blk_drew ?_ | refine blk_alloc ?_ _)); refine blk_put (cs := #[.string (⟨#[]⟩ : ByteArray), .slice none 0 0, .slice none 0 0, .slice none 0 0, .slice none 0 0, .slice none 0 0]) ?_ 0 _ rfl; (with_reducible repeat (first | refine blk_drewN ?_ _ | refine blk_drew ?_ | refine blk_alloc ?_ _)); exact BK121.out) hg (Kd.R_ne HO111.out BK121.out (by decide))); have n6_ := Aside0.mk (hb); have n7_ := Aside0.mk (ho); clear BK101; clear HO108; clear HO114; clear HO117; clear HO120; clear BK121; clear HB; clear HO111; have BK101 := n0_; have HO108 := n1_; have HO114 := n2_; have HO117 := n3_; have HO120 := n4_; have BK121 := n5_; have HB := n6_; have HO124 := n7_; clear n0_ n1_ n2_ n3_ n4_ n5_ n6_ n7_; clear ho hb hg hat; obtain ⟨Ao31, co31, eo31⟩ := Kd.R_slice HO124.out; subst eo31; have hcz32_0 := cz BK121.out 0 (.string t105); have hcz32_1 := cz BK121.out 1 (.slice Ao25 t106.length co25); have hcz32_2 := cz BK121.out 2 (.slice Ao26 t109.length co26); have hcz32_3 := cz BK121.out 3 (.slice Ao27 t112.length co27); have hcz32_4 := cz BK121.out 4 (.slice Ao28 t115.length co28); have hcz32_5 := cz BK121.out 5 (.slice Ao29 t118.length co29); have hfz32_0 := blk_frozen BK121.out 0; have hfz32_1 := blk_frozen BK121.out 1; have hfz32_2 := blk_frozen BK121.out 2; have hfz32_3 := blk_frozen BK121.out 3; have hfz32_4 := blk_frozen BK121.out 4; have hfz32_5 := blk_frozen BK121.out 5) | ((with_reducible refine gate_callee (f := 16) rfl ?_); refine goesL_ (some 30) rfl rfl Tryd.func16 (by kernel_rfl) rfl #[.agg #[.string t105, .slice Ao25 t106.length co25, .slice Ao31 y122.length co31, .slice Ao27 t112.length co27, .slice Ao28 t115.length co28, .slice Ao29 t118.length co29]] rfl tm ?_; (with_reducible refine (valid_Module.calls kj2 t105 _ _ t106 _ _ y122 _ _ t112 _ _ t115 _ _ t118 t125 t126 _ ?side11 ?side1 ?side2 ?side3 ?side4 ?side5 ?side6 ?side7 ?side8 ?side9 ?side10 A19.out).mono ?_); (case side1 => refine (Kd.R_reads' (e := 9) (base := w.heap.size) (ok := fun k_ => (True ∧ some k_ ≠ (.slice Ao31 y122.length co31 : Value).ownBlock)) (n := t106.length) (c := co25) ?_).2.2; exact (by (with_reducible repeat (first | apply Kd.R_alloc | apply Kd.R_drewN | apply Kd.R_drew)); exact (Kd.R_mono (Kd.R_far (p := ⟨gb121, 2, none⟩) (Kd.R_types HO108.out BK121.out (by decide)) (fun _ hk => hk.2) (.slice Ao31 y122.length co31)) (fun _ h_ => h_.1)))); (case side2 => exact rl HO108.out); (case side3 => refine (Kd.R_reads' (e := 9) (base := w.heap.size) (ok := fun k_ => some k_ ≠ (.slice Ao25 t106.length co25 : Value).ownBlock) (n := y122.length) (c := co31) ?_).2.2; exact (by (with_reducible repeat (first | apply Kd.R_alloc | apply Kd.R_drewN | apply Kd.R_drew)); exact (Kd.R_mono (Kd.R_far (p := ⟨gb121, 2, none⟩) (Kd.R_types HO124.out BK121.out (by decide)) (fun _ hk => hk.2) (.slice Ao31 y122.length co31)) (fun _ h_ => h_.1)))); (case side4 => exact rl HO124.out); (case side5 => refine (Kd.R_reads' (e := 44) (base := w.heap.size) (ok := fun k_ => some k_ ≠ (.slice Ao28 t115.length co28 : Value).ownBlock) (n := t112.length) (c := co27) ?_).2.2; exact (by (with_reducible repeat (first | apply Kd.R_alloc | apply Kd.R_drewN | apply Kd.R_drew)); exact (Kd.R_mono (Kd.R_far (p := ⟨gb121, 2, none⟩) (Kd.R_types HO114.out BK121.out (by decide)) (fun _ hk => hk.2) (.slice Ao31 y122.length co31)) (fun _ h_ => h_.1)))); (case side6 => exact rl HO114.out); (case side7 => refine (Kd.R_reads' (e := 44) (base := w.heap.size) (ok := fun k_ => some k_ ≠ (.slice Ao27 t112.length co27 : Value).ownBlock) (n := t115.length) (c := co28) ?_).2.2; exact (by (with_reducible repeat (first | apply Kd.R_alloc | apply Kd.R_drewN | apply Kd.R_drew)); exact (Kd.R_mono (Kd.R_far (p := ⟨gb121, 2, none⟩) (Kd.R_types HO117.out BK121.out (by decide)) (fun _ hk => hk.2) (.slice Ao31 y122.length co31)) (fun _ h_ => h_.1)))); (case side8 => exact rl HO117.out); (case side9 => refine (Kd.R_reads' (e := 43) (base := w.heap.size) (ok := fun k_ => True) (n := t118.length) (c := co29) ?_).2.2; exact (by (with_reducible repeat (first | apply Kd.R_alloc | apply Kd.R_drewN | apply Kd.R_drew)); exact (Kd.R_mono (Kd.R_far (p := ⟨gb121, 2, none⟩) (Kd.R_types HO120.out BK121.out (by decide)) (fun _ hk => hk.2) (.slice Ao31 y122.length co31)) (fun _ h_ => h_.1)))); (case side10 => exact rl HO120.out); (case side11 => first | exact HG.out | exact Glob.below HG.out (tg2 HB.out GE101.out GE121.out)); rintro e w33 ⟨rfl, hb⟩; refine ⟨_, rfl, ?_⟩; replace HO108 := Aside0.mk (Kd.R_below (by (with_reducible repeat (first | apply Kd.R_alloc | apply Kd.R_drewN | apply Kd.R_drew)); exact (Kd.R_mono (Kd.R_far (p := ⟨gb121, 2, none⟩) (Kd.R_types HO108.out BK121.out (by decide)) (fun _ hk => hk.2) (.slice Ao31 y122.length co31)) (fun _ h_ => h_.1))) hb); replace HO114 := Aside0.mk (Kd.R_below (by (with_reducible repeat (first | apply Kd.R_alloc | apply Kd.R_drewN | apply Kd.R_drew)); exact (Kd.R_mono (Kd.R_far (p := ⟨gb121, 2, none⟩) (Kd.R_types HO114.out BK121.out (by decide)) (fun _ hk => hk.2) (.slice Ao31 y122.length co31)) (fun _ h_ => h_.1))) hb); replace HO117 := Aside0.mk (Kd.R_below (by (with_reducible repeat (first | apply Kd.R_alloc | apply Kd.R_drewN | apply Kd.R_drew)); exact (Kd.R_mono (Kd.R_far (p := ⟨gb121, 2, none⟩) (Kd.R_types HO117.out BK121.out (by decide)) (fun _ hk => hk.2) (.slice Ao31 y122.length co31)) (fun _ h_ => h_.1))) hb); replace HO120 := Aside0.mk (Kd.R_below (by (with_reducible repeat (first | apply Kd.R_alloc | apply Kd.R_drewN | apply Kd.R_drew)); exact (Kd.R_mono (Kd.R_far (p := ⟨gb121, 2, none⟩) (Kd.R_types HO120.out BK121.out (by decide)) (fun _ hk => hk.2) (.slice Ao31 y122.length co31)) (fun _ h_ => h_.1))) hb); replace HO124 := Aside0.mk (Kd.R_below (by (with_reducible repeat (first | apply Kd.R_alloc | apply Kd.R_drewN | apply Kd.R_drew)); exact (Kd.R_mono (Kd.R_far (p := ⟨gb121, 2, none⟩) (Kd.R_types HO124.out BK121.out (by decide)) (fun _ hk => hk.2) (.slice Ao31 y122.length co31)) (fun _ h_ => h_.1))) hb); replace BK101 := Aside0.mk (blk_below (g := gb101) (o := .cells #[.string a0_0, .slice A0_1 l0_1.length c0_1, .slice A0_2 l0_2.length c0_2, .slice A0_3 l0_3.length c0_3, .slice A0_4 l0_4.length c0_4, .slice A0_5 l0_5.length c0_5] 26 (0, 0)) (by (with_reducible repeat (first | refine blk_drewN ?_ _ | refine blk_drew ?_ | refine blk_alloc ?_ _)); refine blk_far ?_ NB101_121.out _; (with_reducible repeat (first | refine blk_drewN ?_ _ | refine blk_drew ?_ | refine blk_alloc ?_ _)); exact BK101.out) hb); replace BK121 := Aside0.mk (blk_below (g := gb121) (o := .cells #[.string t105, .slice Ao25 t106.length co25, .slice Ao31 y122.length co31, .slice Ao27 t112.length co27, .slice Ao28 t115.length co28, .slice Ao29 t118.length co29] 26 (0, 0)) (by (with_reducible repeat (first | refine blk_drewN ?_ _ | refine blk_drew ?_ | refine blk_alloc ?_ _)); refine blk_put (cs := #[.string t105, .slice Ao25 t106.length co25, .slice Ao26 t109.length co26, .slice Ao27 t112.length co27, .slice Ao28 t115.length co28, .slice Ao29 t118.length co29]) ?_ 2 _ rfl; (with_reducible repeat (first | refine blk_drewN ?_ _ | refine blk_drew ?_ | refine blk_alloc ?_ _)); exact BK121.out) hb); replace HB := Aside0.mk (below_step (tg2 HB.out GE101.out GE121.out) hb); (try clear hb); (try clear hb2); (try clear hk); (try clear hi)))
     go_loopg [8, 9] kj2 (fun kq v8 v9 w' => ∃ (x8_2 : Bool) (x9_2 : Int), v8 = .bool x8_2 ∧ v9 = .int .i64 x9_2 ∧ Aside0 (budwoodlaw11_ValidMore.l0 kq a1 t125 t126 x8_2 x9_2 a0_0 l0_1 l0_2 l0_3 l0_4 l0_5 = some r) ∧ Aside0 (kq ≤ kj2) ∧ Aside0 (Kd.R Kd.string 9 w' w.heap.size (fun k_ => some k_ ≠ ((.slice Ao31 y122.length co31) : Value).ownBlock) (.slice Ao25 t106.length co25) t106) ∧ Aside0 (Kd.R Kd.string 9 w' w.heap.size (fun k_ => some k_ ≠ ((.slice Ao25 t106.length co25) : Value).ownBlock) (.slice Ao31 y122.length co31) y122) ∧ Aside0 (Kd.R (Kd.int .u32) 44 w' w.heap.size (fun k_ => some k_ ≠ ((.slice Ao28 t115.length co28) : Value).ownBlock) (.slice Ao27 t112.length co27) t112) ∧ Aside0 (Kd.R (Kd.int .u32) 44 w' w.heap.size (fun k_ => some k_ ≠ ((.slice Ao27 t112.length co27) : Value).ownBlock) (.slice Ao28 t115.length co28) t115) ∧ Aside0 (Kd.R k43 43 w' w.heap.size (fun _ => True) (.slice Ao29 t118.length co29) t118) ∧ Aside0 (w'.heap[gb101]? = some (.cells #[.string a0_0, (.slice A0_1 l0_1.length c0_1), (.slice A0_2 l0_2.length c0_2), (.slice A0_3 l0_3.length c0_3), (.slice A0_4 l0_4.length c0_4), (.slice A0_5 l0_5.length c0_5)] 26 (0, 0))) ∧ Aside0 (w'.heap[gb121]? = some (.cells #[.string t105, (.slice Ao25 t106.length co25), (.slice Ao31 y122.length co31), (.slice Ao27 t112.length co27), (.slice Ao28 t115.length co28), (.slice Ao29 t118.length co29)] 26 (0, 0))) ∧ Aside0 (Below w.heap.size w w'))
     case atStart => exact ⟨(false), (0), (by first | rfl | (simp; done) | (simp [*]; done)), (by first | rfl | (simp; done) | (simp [*]; done)), H', ⟨Nat.le_refl _⟩, ⟨by (with_reducible repeat (first | apply Kd.R_alloc | apply Kd.R_drewN | apply Kd.R_drew)); exact Kd.R_mono HO108.out (fun _ hk => hk.2)⟩, ⟨by (with_reducible repeat (first | apply Kd.R_alloc | apply Kd.R_drewN | apply Kd.R_drew)); exact HO124.out⟩, ⟨by (with_reducible repeat (first | apply Kd.R_alloc | apply Kd.R_drewN | apply Kd.R_drew)); exact HO114.out⟩, ⟨by (with_reducible repeat (first | apply Kd.R_alloc | apply Kd.R_drewN | apply Kd.R_drew)); exact HO117.out⟩, ⟨by (with_reducible repeat (first | apply Kd.R_alloc | apply Kd.R_drewN | apply Kd.R_drew)); exact HO120.out⟩, ⟨by (with_reducible repeat (first | refine blk_drewN ?_ _ | refine blk_drew ?_ | refine blk_alloc ?_ _)); exact BK101.out⟩, ⟨by (with_reducible repeat (first | refine blk_drewN ?_ _ | refine blk_drew ?_ | refine blk_alloc ?_ _)); exact BK121.out⟩, ⟨tg2 HB.out GE101.out GE121.out⟩⟩
     case round =>
      clear H'
      try clear c1
      try clear c2
      try clear p2
      try clear c6
      try clear c6b0
      try clear c13
      try clear c14
      try clear c15
      try clear c16
      try clear c18
      try clear c23
      try clear hcz10_0
      try clear hcz10_1
      try clear hcz10_2
      try clear hcz10_3
      try clear hcz10_4
      try clear hcz10_5
      try clear hcz12_0
      try clear hcz12_1
      try clear hcz12_2
      try clear hcz12_3
      try clear hcz12_4
      try clear hcz12_5
      try clear hcz20_0
      try clear hcz20_1
      try clear hcz20_2
      try clear hcz20_3
      try clear hcz20_4
      try clear hcz20_5
      try clear hcz24_0
      try clear hcz24_1
      try clear hcz24_2
      try clear hcz24_3
      try clear hcz24_4
      try clear hcz24_5
      try clear hcz32_0
      try clear hcz32_1
      try clear hcz32_2
      try clear hcz32_3
      try clear hcz32_4
      try clear hcz32_5
      try clear hcz7_0
      try clear hcz7_1
      try clear hcz7_2
      try clear hcz7_3
      try clear hcz7_4
      try clear hcz7_5
      try clear hfz10_0
      try clear hfz10_1
      try clear hfz10_2
      try clear hfz10_3
      try clear hfz10_4
      try clear hfz10_5
      try clear hfz12_0
      try clear hfz12_1
      try clear hfz12_2
      try clear hfz12_3
      try clear hfz12_4
      try clear hfz12_5
      try clear hfz20_0
      try clear hfz20_1
      try clear hfz20_2
      try clear hfz20_3
      try clear hfz20_4
      try clear hfz20_5
      try clear hfz24_0
      try clear hfz24_1
      try clear hfz24_2
      try clear hfz24_3
      try clear hfz24_4
      try clear hfz24_5
      try clear hfz32_0
      try clear hfz32_1
      try clear hfz32_2
      try clear hfz32_3
      try clear hfz32_4
      try clear hfz32_5
      try clear hfz7_0
      try clear hfz7_1
      try clear hfz7_2
      try clear hfz7_3
      try clear hfz7_4
      try clear hfz7_5
      try clear p2
      obtain ⟨x8_2, x9_2, rfl, rfl, HA, HK2, HO_122001, HO_122002, HO_122003, HO_122004, HO_122005, BK101, BK121, HB⟩ := hrel
      cases gk with
      | zero => exact absurd HA.out (by simp [budwoodlaw11_ValidMore.l0])
      | succ k2 =>
       have H := HA.out
       clear HA
       simp only [budwoodlaw11_ValidMore.l0] at H
       by_cases c34 : x9_2 < (l0_2.length : Int)
       ·rw [if_pos c34] at H
        have c34b0 : decide (x9_2 < (l0_2.length : Int)) = true := decide_eq_true c34
        clear c34
        by_cases c35 : x8_2 = true
        ·subst c35
         have H1 : (budwoodlaw11_ValidMore.l0 k2 a1 t125 t126 true (wrap64 (x9_2 + 1)) a0_0 l0_1 l0_2 l0_3 l0_4 l0_5) = some r := by rw [if_pos rfl] at H; exact H
         clear H
         have H := H1
         clear H1
         have H' := Aside0.mk H
         clear H
         have hnb36 := NB101_121.out
         have hnc36 := NB121_101.out
         have hcz37_0 := cz BK101.out 0 (.string a0_0)
         have hcz37_1 := cz BK101.out 1 (.slice A0_1 l0_1.length c0_1)
         have hcz37_2 := cz BK101.out 2 (.slice A0_2 l0_2.length c0_2)
         have hcz37_3 := cz BK101.out 3 (.slice A0_3 l0_3.length c0_3)
         have hcz37_4 := cz BK101.out 4 (.slice A0_4 l0_4.length c0_4)
         have hcz37_5 := cz BK101.out 5 (.slice A0_5 l0_5.length c0_5)
         have hfz37_0 := blk_frozen BK101.out 0
         have hfz37_1 := blk_frozen BK101.out 1
         have hfz37_2 := blk_frozen BK101.out 2
         have hfz37_3 := blk_frozen BK101.out 3
         have hfz37_4 := blk_frozen BK101.out 4
         have hfz37_5 := blk_frozen BK101.out 5
         go_wp2
         go_roundg k2
         case measure => have := HJ2.out; have := HK2.out; omega
         case rel => exact ⟨(true), (wrap64 (x9_2 + 1)), (by first | rfl | (simp; done) | (simp [*]; done)), (by first | rfl | (simp; done) | (simp [*]; done)), H', ⟨by have := HJ2.out; have := HK2.out; omega⟩, ⟨by (with_reducible repeat (first | apply Kd.R_alloc | apply Kd.R_drewN | apply Kd.R_drew)); exact HO_122001.out⟩, ⟨by (with_reducible repeat (first | apply Kd.R_alloc | apply Kd.R_drewN | apply Kd.R_drew)); exact HO_122002.out⟩, ⟨by (with_reducible repeat (first | apply Kd.R_alloc | apply Kd.R_drewN | apply Kd.R_drew)); exact HO_122003.out⟩, ⟨by (with_reducible repeat (first | apply Kd.R_alloc | apply Kd.R_drewN | apply Kd.R_drew)); exact HO_122004.out⟩, ⟨by (with_reducible repeat (first | apply Kd.R_alloc | apply Kd.R_drewN | apply Kd.R_drew)); exact HO_122005.out⟩, ⟨by (with_reducible repeat (first | refine blk_drewN ?_ _ | refine blk_drew ?_ | refine blk_alloc ?_ _)); exact BK101.out⟩, ⟨by (with_reducible repeat (first | refine blk_drewN ?_ _ | refine blk_drew ?_ | refine blk_alloc ?_ _)); exact BK121.out⟩, ⟨tg2 HB.out GE101.out GE121.out⟩⟩
        ·replace c35 := Bool.eq_false_iff.mpr c35
         subst c35
         have H1 : (if 0 ≤ x9_2 then (budwoodlaw11_ValidMore.l0 k2 a1 t125 t126 ((rdOf ByteArray.empty l0_2 x9_2).toList == a1.toList) (wrap64 (x9_2 + 1)) a0_0 l0_1 l0_2 l0_3 l0_4 l0_5) else (none)) = some r := by rw [if_neg (show ¬ (false = true) by decide)] at H; exact H
         clear H
         have H := H1
         clear H1
         by_cases c38 : 0 ≤ x9_2
         ·rw [if_pos c38] at H
          have c38b0 : decide (0 ≤ x9_2) = true := decide_eq_true c38
          clear c38
          have H' := Aside0.mk H
          clear H
          have hnb39 := NB101_121.out
          have hnc39 := NB121_101.out
          have hcz40_0 := cz BK101.out 0 (.string a0_0)
          have hcz40_1 := cz BK101.out 1 (.slice A0_1 l0_1.length c0_1)
          have hcz40_2 := cz BK101.out 2 (.slice A0_2 l0_2.length c0_2)
          have hcz40_3 := cz BK101.out 3 (.slice A0_3 l0_3.length c0_3)
          have hcz40_4 := cz BK101.out 4 (.slice A0_4 l0_4.length c0_4)
          have hcz40_5 := cz BK101.out 5 (.slice A0_5 l0_5.length c0_5)
          have hfz40_0 := blk_frozen BK101.out 0
          have hfz40_1 := blk_frozen BK101.out 1
          have hfz40_2 := blk_frozen BK101.out 2
          have hfz40_3 := blk_frozen BK101.out 3
          have hfz40_4 := blk_frozen BK101.out 4
          have hfz40_5 := blk_frozen BK101.out 5
          have p127 : 0 ≤ (x9_2 : Int) := of_decide_eq_true (by first | (with_reducible assumption) | assumption)
          have q127 : x9_2 < (l0_2.length : Int) := of_decide_eq_true (by first | (with_reducible assumption) | assumption)
          obtain ⟨ad127, e127, hx127_0⟩ := Kd.at_string HR0_2.out x9_2 p127 q127
          cases e127
          replace hx127_0 := (HB.out.cell (World.block_lt_of_cell? w _ hx127_0)).trans hx127_0
          replace p127 := eq_true p127
          replace q127 := eq_true q127
          go_wp2
          go_roundg k2
          case measure => have := HJ2.out; have := HK2.out; omega
          case rel => exact ⟨(((rdOf ByteArray.empty l0_2 x9_2).toList == a1.toList)), (wrap64 (x9_2 + 1)), (by first | rfl | (simp; done) | (simp [*]; done)), (by first | rfl | (simp; done) | (simp [*]; done)), H', ⟨by have := HJ2.out; have := HK2.out; omega⟩, ⟨by (with_reducible repeat (first | apply Kd.R_alloc | apply Kd.R_drewN | apply Kd.R_drew)); exact HO_122001.out⟩, ⟨by (with_reducible repeat (first | apply Kd.R_alloc | apply Kd.R_drewN | apply Kd.R_drew)); exact HO_122002.out⟩, ⟨by (with_reducible repeat (first | apply Kd.R_alloc | apply Kd.R_drewN | apply Kd.R_drew)); exact HO_122003.out⟩, ⟨by (with_reducible repeat (first | apply Kd.R_alloc | apply Kd.R_drewN | apply Kd.R_drew)); exact HO_122004.out⟩, ⟨by (with_reducible repeat (first | apply Kd.R_alloc | apply Kd.R_drewN | apply Kd.R_drew)); exact HO_122005.out⟩, ⟨by (with_reducible repeat (first | refine blk_drewN ?_ _ | refine blk_drew ?_ | refine blk_alloc ?_ _)); exact BK101.out⟩, ⟨by (with_reducible repeat (first | refine blk_drewN ?_ _ | refine blk_drew ?_ | refine blk_alloc ?_ _)); exact BK121.out⟩, ⟨tg2 HB.out GE101.out GE121.out⟩⟩
         ·rw [if_neg c38] at H
          exact absurd H (by simp)
       ·rw [if_neg c34] at H
        have c34b0 : decide (x9_2 < (l0_2.length : Int)) = false := decide_eq_false c34
        clear c34
        have HC41 := Aside0.mk H
        clear H
        have hnb42 := NB101_121.out
        have hnc42 := NB121_101.out
        have hcz43_0 := cz BK101.out 0 (.string a0_0)
        have hcz43_1 := cz BK101.out 1 (.slice A0_1 l0_1.length c0_1)
        have hcz43_2 := cz BK101.out 2 (.slice A0_2 l0_2.length c0_2)
        have hcz43_3 := cz BK101.out 3 (.slice A0_3 l0_3.length c0_3)
        have hcz43_4 := cz BK101.out 4 (.slice A0_4 l0_4.length c0_4)
        have hcz43_5 := cz BK101.out 5 (.slice A0_5 l0_5.length c0_5)
        have hfz43_0 := blk_frozen BK101.out 0
        have hfz43_1 := blk_frozen BK101.out 1
        have hfz43_2 := blk_frozen BK101.out 2
        have hfz43_3 := blk_frozen BK101.out 3
        have hfz43_4 := blk_frozen BK101.out 4
        have hfz43_5 := blk_frozen BK101.out 5
        go_upto_region 11 with (fail)
        go_cut [50] (fun v50 wc => ∃ (kq : Nat) (x50_40 : Bool), v50 = .bool x50_40 ∧ Aside0 (budwoodlaw11_ValidMore.j2 kq t125 t126 x8_2 x50_40 a0_0 l0_1 l0_2 l0_3 l0_4 l0_5 = some r) ∧ Aside0 (kq ≤ k2) ∧ Aside0 (Kd.R Kd.string 9 wc w.heap.size (fun k_ => some k_ ≠ ((.slice Ao31 y122.length co31) : Value).ownBlock) (.slice Ao25 t106.length co25) t106) ∧ Aside0 (Kd.R Kd.string 9 wc w.heap.size (fun k_ => some k_ ≠ ((.slice Ao25 t106.length co25) : Value).ownBlock) (.slice Ao31 y122.length co31) y122) ∧ Aside0 (Kd.R (Kd.int .u32) 44 wc w.heap.size (fun k_ => some k_ ≠ ((.slice Ao28 t115.length co28) : Value).ownBlock) (.slice Ao27 t112.length co27) t112) ∧ Aside0 (Kd.R (Kd.int .u32) 44 wc w.heap.size (fun k_ => some k_ ≠ ((.slice Ao27 t112.length co27) : Value).ownBlock) (.slice Ao28 t115.length co28) t115) ∧ Aside0 (Kd.R k43 43 wc w.heap.size (fun _ => True) (.slice Ao29 t118.length co29) t118) ∧ Aside0 (wc.heap[gb101]? = some (.cells #[.string a0_0, (.slice A0_1 l0_1.length c0_1), (.slice A0_2 l0_2.length c0_2), (.slice A0_3 l0_3.length c0_3), (.slice A0_4 l0_4.length c0_4), (.slice A0_5 l0_5.length c0_5)] 26 (0, 0))) ∧ Aside0 (wc.heap[gb121]? = some (.cells #[.string t105, (.slice Ao25 t106.length co25), (.slice Ao31 y122.length co31), (.slice Ao27 t112.length co27), (.slice Ao28 t115.length co28), (.slice Ao29 t118.length co29)] 26 (0, 0))) ∧ Aside0 (Below w.heap.size w wc))
        case first =>
         have H := HC41.out
         clear HC41
         by_cases c44 : (l0_2.length : Int) = 16
         ·rw [if_pos c44] at H
          have c44b0 : ((l0_2.length : Int) == 16) = true := beq_iff_eq.mpr c44
          have c44b1 : ((l0_2.length : Int) != 16) = false := bne_eq_false_iff_eq.mpr c44
          clear c44
          (first | rw [c44b0] | (simp only [i64_w, i32_w]; rw [c44b0]) | skip)
          have H' := Aside0.mk H
          clear H
          have hnb45 := NB101_121.out
          have hnc45 := NB121_101.out
          have hcz46_0 := cz BK101.out 0 (.string a0_0)
          have hcz46_1 := cz BK101.out 1 (.slice A0_1 l0_1.length c0_1)
          have hcz46_2 := cz BK101.out 2 (.slice A0_2 l0_2.length c0_2)
          have hcz46_3 := cz BK101.out 3 (.slice A0_3 l0_3.length c0_3)
          have hcz46_4 := cz BK101.out 4 (.slice A0_4 l0_4.length c0_4)
          have hcz46_5 := cz BK101.out 5 (.slice A0_5 l0_5.length c0_5)
          have hfz46_0 := blk_frozen BK101.out 0
          have hfz46_1 := blk_frozen BK101.out 1
          have hfz46_2 := blk_frozen BK101.out 2
          have hfz46_3 := blk_frozen BK101.out 3
          have hfz46_4 := blk_frozen BK101.out 4
          have hfz46_5 := blk_frozen BK101.out 5
          go_wp2
          go_meet
          case rel => exact ⟨_, (true), (by first | rfl | (simp; done) | (simp [*]; done)), H', ⟨by have := HJ2.out; have := HK2.out; first | omega | exact Nat.le_refl _⟩, ⟨by (with_reducible repeat (first | apply Kd.R_alloc | apply Kd.R_drewN | apply Kd.R_drew)); exact HO_122001.out⟩, ⟨by (with_reducible repeat (first | apply Kd.R_alloc | apply Kd.R_drewN | apply Kd.R_drew)); exact HO_122002.out⟩, ⟨by (with_reducible repeat (first | apply Kd.R_alloc | apply Kd.R_drewN | apply Kd.R_drew)); exact HO_122003.out⟩, ⟨by (with_reducible repeat (first | apply Kd.R_alloc | apply Kd.R_drewN | apply Kd.R_drew)); exact HO_122004.out⟩, ⟨by (with_reducible repeat (first | apply Kd.R_alloc | apply Kd.R_drewN | apply Kd.R_drew)); exact HO_122005.out⟩, ⟨by (with_reducible repeat (first | refine blk_drewN ?_ _ | refine blk_drew ?_ | refine blk_alloc ?_ _)); exact BK101.out⟩, ⟨by (with_reducible repeat (first | refine blk_drewN ?_ _ | refine blk_drew ?_ | refine blk_alloc ?_ _)); exact BK121.out⟩, ⟨tg2 HB.out GE101.out GE121.out⟩⟩
         ·rw [if_neg c44] at H
          have c44b0 : ((l0_2.length : Int) == 16) = false := beq_eq_false_iff_ne.mpr c44
          have c44b1 : ((l0_2.length : Int) != 16) = true := bne_iff_ne.mpr c44
          (first | rw [c44b0] | (simp only [i64_w, i32_w]; rw [c44b0]) | skip)
          have H' := Aside0.mk H
          clear H
          have hnb47 := NB101_121.out
          have hnc47 := NB121_101.out
          have hcz48_0 := cz BK101.out 0 (.string a0_0)
          have hcz48_1 := cz BK101.out 1 (.slice A0_1 l0_1.length c0_1)
          have hcz48_2 := cz BK101.out 2 (.slice A0_2 l0_2.length c0_2)
          have hcz48_3 := cz BK101.out 3 (.slice A0_3 l0_3.length c0_3)
          have hcz48_4 := cz BK101.out 4 (.slice A0_4 l0_4.length c0_4)
          have hcz48_5 := cz BK101.out 5 (.slice A0_5 l0_5.length c0_5)
          have hfz48_0 := blk_frozen BK101.out 0
          have hfz48_1 := blk_frozen BK101.out 1
          have hfz48_2 := blk_frozen BK101.out 2
          have hfz48_3 := blk_frozen BK101.out 3
          have hfz48_4 := blk_frozen BK101.out 4
          have hfz48_5 := blk_frozen BK101.out 5
          go_wp2
          go_meet
          case rel => exact ⟨_, (decide ((a1.size : Int) > 96)), (by first | rfl | (simp; done) | (simp [*]; done)), H', ⟨by have := HJ2.out; have := HK2.out; first | omega | exact Nat.le_refl _⟩, ⟨by (with_reducible repeat (first | apply Kd.R_alloc | apply Kd.R_drewN | apply Kd.R_drew)); exact HO_122001.out⟩, ⟨by (with_reducible repeat (first | apply Kd.R_alloc | apply Kd.R_drewN | apply Kd.R_drew)); exact HO_122002.out⟩, ⟨by (with_reducible repeat (first | apply Kd.R_alloc | apply Kd.R_drewN | apply Kd.R_drew)); exact HO_122003.out⟩, ⟨by (with_reducible repeat (first | apply Kd.R_alloc | apply Kd.R_drewN | apply Kd.R_drew)); exact HO_122004.out⟩, ⟨by (with_reducible repeat (first | apply Kd.R_alloc | apply Kd.R_drewN | apply Kd.R_drew)); exact HO_122005.out⟩, ⟨by (with_reducible repeat (first | refine blk_drewN ?_ _ | refine blk_drew ?_ | refine blk_alloc ?_ _)); exact BK101.out⟩, ⟨by (with_reducible repeat (first | refine blk_drewN ?_ _ | refine blk_drew ?_ | refine blk_alloc ?_ _)); exact BK121.out⟩, ⟨tg2 HB.out GE101.out GE121.out⟩⟩
        case rest =>
         clear HC41
         try clear c1
         try clear p1
         try clear q1
         try clear hx1
         try clear c2
         try clear p2
         try clear c3
         try clear c4
         try clear c6
         try clear c6b0
         try clear p6
         try clear p12
         try clear q12
         try clear hx12
         try clear c13
         try clear c14
         try clear c15
         try clear c16
         try clear c18
         try clear c23
         try clear c34
         try clear c34b0
         try clear c35
         try clear c36
         try clear c38
         try clear c38b0
         try clear c39
         try clear c42
         try clear c44
         try clear c44b0
         try clear c44b1
         try clear c45
         try clear c47
         try clear hcz10_0
         try clear hcz10_1
         try clear hcz10_2
         try clear hcz10_3
         try clear hcz10_4
         try clear hcz10_5
         try clear hcz12_0
         try clear hcz12_1
         try clear hcz12_2
         try clear hcz12_3
         try clear hcz12_4
         try clear hcz12_5
         try clear hcz20_0
         try clear hcz20_1
         try clear hcz20_2
         try clear hcz20_3
         try clear hcz20_4
         try clear hcz20_5
         try clear hcz24_0
         try clear hcz24_1
         try clear hcz24_2
         try clear hcz24_3
         try clear hcz24_4
         try clear hcz24_5
         try clear hcz32_0
         try clear hcz32_1
         try clear hcz32_2
         try clear hcz32_3
         try clear hcz32_4
         try clear hcz32_5
         try clear hcz37_0
         try clear hcz37_1
         try clear hcz37_2
         try clear hcz37_3
         try clear hcz37_4
         try clear hcz37_5
         try clear hcz40_0
         try clear hcz40_1
         try clear hcz40_2
         try clear hcz40_3
         try clear hcz40_4
         try clear hcz40_5
         try clear hcz43_0
         try clear hcz43_1
         try clear hcz43_2
         try clear hcz43_3
         try clear hcz43_4
         try clear hcz43_5
         try clear hcz46_0
         try clear hcz46_1
         try clear hcz46_2
         try clear hcz46_3
         try clear hcz46_4
         try clear hcz46_5
         try clear hcz48_0
         try clear hcz48_1
         try clear hcz48_2
         try clear hcz48_3
         try clear hcz48_4
         try clear hcz48_5
         try clear hcz7_0
         try clear hcz7_1
         try clear hcz7_2
         try clear hcz7_3
         try clear hcz7_4
         try clear hcz7_5
         try clear hfz10_0
         try clear hfz10_1
         try clear hfz10_2
         try clear hfz10_3
         try clear hfz10_4
         try clear hfz10_5
         try clear hfz12_0
         try clear hfz12_1
         try clear hfz12_2
         try clear hfz12_3
         try clear hfz12_4
         try clear hfz12_5
         try clear hfz20_0
         try clear hfz20_1
         try clear hfz20_2
         try clear hfz20_3
         try clear hfz20_4
         try clear hfz20_5
         try clear hfz24_0
         try clear hfz24_1
         try clear hfz24_2
         try clear hfz24_3
         try clear hfz24_4
         try clear hfz24_5
         try clear hfz32_0
         try clear hfz32_1
         try clear hfz32_2
         try clear hfz32_3
         try clear hfz32_4
         try clear hfz32_5
         try clear hfz37_0
         try clear hfz37_1
         try clear hfz37_2
         try clear hfz37_3
         try clear hfz37_4
         try clear hfz37_5
         try clear hfz40_0
         try clear hfz40_1
         try clear hfz40_2
         try clear hfz40_3
         try clear hfz40_4
         try clear hfz40_5
         try clear hfz43_0
         try clear hfz43_1
         try clear hfz43_2
         try clear hfz43_3
         try clear hfz43_4
         try clear hfz43_5
         try clear hfz46_0
         try clear hfz46_1
         try clear hfz46_2
         try clear hfz46_3
         try clear hfz46_4
         try clear hfz46_5
         try clear hfz48_0
         try clear hfz48_1
         try clear hfz48_2
         try clear hfz48_3
         try clear hfz48_4
         try clear hfz48_5
         try clear hfz7_0
         try clear hfz7_1
         try clear hfz7_2
         try clear hfz7_3
         try clear hfz7_4
         try clear hfz7_5
         try clear hx127_0
         try clear p127
         try clear p2
         try clear q127
         obtain ⟨kq, x50_40, rfl, HA, HJ40, HO_122001, HO_122002, HO_122003, HO_122004, HO_122005, BK101, BK121, HB⟩ := hcut
         cases kq with
         | zero => exact absurd HA.out (by simp [budwoodlaw11_ValidMore.j2])
         | succ kj40 =>
          have H := HA.out
          clear HA
          simp only [budwoodlaw11_ValidMore.j2] at H
          by_cases c49 : x50_40 = true
          ·subst c49
           have H1 : (if t125 = 1 then ((budwoodlaw11_awake.f kj40).bind fun t128 => (some t128)) else (some false)) = some r := by rw [if_pos rfl] at H; exact H
           clear H
           have H := H1
           clear H1
           by_cases c50 : t125 = 1
           ·rw [if_pos c50] at H
            have c50b0 : (t125 == 1) = true := beq_iff_eq.mpr c50
            have c50b1 : (t125 != 1) = false := bne_eq_false_iff_eq.mpr c50
            clear c50
            replace H := Option.bind_eq_some_iff.mp H
            obtain ⟨t128, A510, H⟩ := H
            replace H : (some t128) = some r := H
            have A51 := Aside0.mk A510
            clear A510
            obtain rfl := Option.some.inj H
            go_wp2_with (first | (go_at_call 14; (with_reducible refine (budwoodlaw11_awake.calls kj40  t128 _ ?side1 A51.out).mono ?_); (case side1 => first | exact HG.out | exact Glob.below HG.out (tg2 HB.out GE101.out GE121.out)); rintro e w52 ⟨rfl, hb⟩; replace HO_122001 := ra HO_122001.out hb; replace HO_122002 := ra HO_122002.out hb; replace HO_122003 := ra HO_122003.out hb; replace HO_122004 := ra HO_122004.out hb; replace HO_122005 := ra HO_122005.out hb; replace BK101 := ba BK101.out hb; replace BK121 := ba BK121.out hb; replace HB := Aside0.mk (below_step (tg2 HB.out GE101.out GE121.out) hb); (try clear hb); (try clear hb2); (try clear hk); (try clear hi)))
            go_ret
            exact ⟨by first | rfl | (simp [errW_none, errW_some] <;> rfl) | (simp [*, errW_none, errW_some] <;> rfl), tg2 HB.out GE101.out GE121.out⟩
           ·rw [if_neg c50] at H
            have c50b0 : (t125 == 1) = false := beq_eq_false_iff_ne.mpr c50
            have c50b1 : (t125 != 1) = true := bne_iff_ne.mpr c50
            obtain rfl := Option.some.inj H
            go_wp2
            go_ret
            exact ⟨by first | rfl | (simp [errW_none, errW_some] <;> rfl) | (simp [*, errW_none, errW_some] <;> rfl), tg2 HB.out GE101.out GE121.out⟩
          ·replace c49 := Bool.eq_false_iff.mpr c49
           subst c49
           have H1 : (if t125 = 2 then (if t126 = (wrap64 (9 + (l0_2.length : Int))) then ((budwoodlaw11_awake.f kj40).bind fun t129 => (some t129)) else (some false)) else (if x8_2 = true then (if t125 = 3 then (if t126 = (wrap64 (8 + (l0_2.length : Int))) then ((budwoodlaw11_awake.f kj40).bind fun t130 => (some t130)) else (some false)) else (some false)) else ((budwoodref10_Copy.f a0_0 l0_1 l0_2 l0_3 l0_4 l0_5).bind fun bt131 => (if bt131.2.2.2.2.1.length < 35184372088832 then (if t125 = 0 then ((valid_Check.f kj40 bt131.1 bt131.2.1 bt131.2.2.1 bt131.2.2.2.1 (bt131.2.2.2.2.1 ++ [7]) bt131.2.2.2.2.2).bind fun t151 => (if ((t151 == 0) == (decide ((l0_4.length : Int) < 128))) = true then ((budwoodlaw11_awake.f kj40).bind fun t152 => (some t152)) else (some false))) else (some false)) else (none))))) = some r := by rw [if_neg (show ¬ (false = true) by decide)] at H; exact H
           clear H
           have H := H1
           clear H1
           by_cases c53 : t125 = 2
           ·rw [if_pos c53] at H
            have c53b0 : (t125 == 2) = true := beq_iff_eq.mpr c53
            have c53b1 : (t125 != 2) = false := bne_eq_false_iff_eq.mpr c53
            clear c53
            by_cases c54 : t126 = (wrap64 (9 + (l0_2.length : Int)))
            ·rw [if_pos c54] at H
             have c54b0 : (t126 == (wrap64 (9 + (l0_2.length : Int)))) = true := beq_iff_eq.mpr c54
             have c54b1 : (t126 != (wrap64 (9 + (l0_2.length : Int)))) = false := bne_eq_false_iff_eq.mpr c54
             clear c54
             replace H := Option.bind_eq_some_iff.mp H
             obtain ⟨t129, A550, H⟩ := H
             replace H : (some t129) = some r := H
             have A55 := Aside0.mk A550
             clear A550
             obtain rfl := Option.some.inj H
             have hnb56 := NB101_121.out
             have hnc56 := NB121_101.out
             have hcz57_0 := cz BK101.out 0 (.string a0_0)
             have hcz57_1 := cz BK101.out 1 (.slice A0_1 l0_1.length c0_1)
             have hcz57_2 := cz BK101.out 2 (.slice A0_2 l0_2.length c0_2)
             have hcz57_3 := cz BK101.out 3 (.slice A0_3 l0_3.length c0_3)
             have hcz57_4 := cz BK101.out 4 (.slice A0_4 l0_4.length c0_4)
             have hcz57_5 := cz BK101.out 5 (.slice A0_5 l0_5.length c0_5)
             have hfz57_0 := blk_frozen BK101.out 0
             have hfz57_1 := blk_frozen BK101.out 1
             have hfz57_2 := blk_frozen BK101.out 2
             have hfz57_3 := blk_frozen BK101.out 3
             have hfz57_4 := blk_frozen BK101.out 4
             have hfz57_5 := blk_frozen BK101.out 5
             go_wp2_with (first | (go_at_call 14; (with_reducible refine (budwoodlaw11_awake.calls kj40  t129 _ ?side1 A55.out).mono ?_); (case side1 => first | exact HG.out | exact Glob.below HG.out (tg2 HB.out GE101.out GE121.out)); rintro e w58 ⟨rfl, hb⟩; replace HO_122001 := ra HO_122001.out hb; replace HO_122002 := ra HO_122002.out hb; replace HO_122003 := ra HO_122003.out hb; replace HO_122004 := ra HO_122004.out hb; replace HO_122005 := ra HO_122005.out hb; replace BK101 := ba BK101.out hb; replace BK121 := ba BK121.out hb; replace HB := Aside0.mk (below_step (tg2 HB.out GE101.out GE121.out) hb); (try clear hb); (try clear hb2); (try clear hk); (try clear hi)))
             go_ret
             exact ⟨by first | rfl | (simp [errW_none, errW_some] <;> rfl) | (simp [*, errW_none, errW_some] <;> rfl), tg2 HB.out GE101.out GE121.out⟩
            ·rw [if_neg c54] at H
             have c54b0 : (t126 == (wrap64 (9 + (l0_2.length : Int)))) = false := beq_eq_false_iff_ne.mpr c54
             have c54b1 : (t126 != (wrap64 (9 + (l0_2.length : Int)))) = true := bne_iff_ne.mpr c54
             obtain rfl := Option.some.inj H
             have hnb59 := NB101_121.out
             have hnc59 := NB121_101.out
             have hcz60_0 := cz BK101.out 0 (.string a0_0)
             have hcz60_1 := cz BK101.out 1 (.slice A0_1 l0_1.length c0_1)
             have hcz60_2 := cz BK101.out 2 (.slice A0_2 l0_2.length c0_2)
             have hcz60_3 := cz BK101.out 3 (.slice A0_3 l0_3.length c0_3)
             have hcz60_4 := cz BK101.out 4 (.slice A0_4 l0_4.length c0_4)
             have hcz60_5 := cz BK101.out 5 (.slice A0_5 l0_5.length c0_5)
             have hfz60_0 := blk_frozen BK101.out 0
             have hfz60_1 := blk_frozen BK101.out 1
             have hfz60_2 := blk_frozen BK101.out 2
             have hfz60_3 := blk_frozen BK101.out 3
             have hfz60_4 := blk_frozen BK101.out 4
             have hfz60_5 := blk_frozen BK101.out 5
             go_wp2
             go_ret
             exact ⟨by first | rfl | (simp [errW_none, errW_some] <;> rfl) | (simp [*, errW_none, errW_some] <;> rfl), tg2 HB.out GE101.out GE121.out⟩
           ·rw [if_neg c53] at H
            have c53b0 : (t125 == 2) = false := beq_eq_false_iff_ne.mpr c53
            have c53b1 : (t125 != 2) = true := bne_iff_ne.mpr c53
            by_cases c61 : x8_2 = true
            ·subst c61
             have H1 : (if t125 = 3 then (if t126 = (wrap64 (8 + (l0_2.length : Int))) then ((budwoodlaw11_awake.f kj40).bind fun t130 => (some t130)) else (some false)) else (some false)) = some r := by rw [if_pos rfl] at H; exact H
             clear H
             have H := H1
             clear H1
             by_cases c62 : t125 = 3
             ·rw [if_pos c62] at H
              have c62b0 : (t125 == 3) = true := beq_iff_eq.mpr c62
              have c62b1 : (t125 != 3) = false := bne_eq_false_iff_eq.mpr c62
              clear c62
              by_cases c63 : t126 = (wrap64 (8 + (l0_2.length : Int)))
              ·rw [if_pos c63] at H
               have c63b0 : (t126 == (wrap64 (8 + (l0_2.length : Int)))) = true := beq_iff_eq.mpr c63
               have c63b1 : (t126 != (wrap64 (8 + (l0_2.length : Int)))) = false := bne_eq_false_iff_eq.mpr c63
               clear c63
               replace H := Option.bind_eq_some_iff.mp H
               obtain ⟨t130, A640, H⟩ := H
               replace H : (some t130) = some r := H
               have A64 := Aside0.mk A640
               clear A640
               obtain rfl := Option.some.inj H
               have hnb65 := NB101_121.out
               have hnc65 := NB121_101.out
               have hcz66_0 := cz BK101.out 0 (.string a0_0)
               have hcz66_1 := cz BK101.out 1 (.slice A0_1 l0_1.length c0_1)
               have hcz66_2 := cz BK101.out 2 (.slice A0_2 l0_2.length c0_2)
               have hcz66_3 := cz BK101.out 3 (.slice A0_3 l0_3.length c0_3)
               have hcz66_4 := cz BK101.out 4 (.slice A0_4 l0_4.length c0_4)
               have hcz66_5 := cz BK101.out 5 (.slice A0_5 l0_5.length c0_5)
               have hfz66_0 := blk_frozen BK101.out 0
               have hfz66_1 := blk_frozen BK101.out 1
               have hfz66_2 := blk_frozen BK101.out 2
               have hfz66_3 := blk_frozen BK101.out 3
               have hfz66_4 := blk_frozen BK101.out 4
               have hfz66_5 := blk_frozen BK101.out 5
               go_wp2_with (first | (go_at_call 14; (with_reducible refine (budwoodlaw11_awake.calls kj40  t130 _ ?side1 A64.out).mono ?_); (case side1 => first | exact HG.out | exact Glob.below HG.out (tg2 HB.out GE101.out GE121.out)); rintro e w67 ⟨rfl, hb⟩; replace HO_122001 := ra HO_122001.out hb; replace HO_122002 := ra HO_122002.out hb; replace HO_122003 := ra HO_122003.out hb; replace HO_122004 := ra HO_122004.out hb; replace HO_122005 := ra HO_122005.out hb; replace BK101 := ba BK101.out hb; replace BK121 := ba BK121.out hb; replace HB := Aside0.mk (below_step (tg2 HB.out GE101.out GE121.out) hb); (try clear hb); (try clear hb2); (try clear hk); (try clear hi)))
               go_ret
               exact ⟨by first | rfl | (simp [errW_none, errW_some] <;> rfl) | (simp [*, errW_none, errW_some] <;> rfl), tg2 HB.out GE101.out GE121.out⟩
              ·rw [if_neg c63] at H
               have c63b0 : (t126 == (wrap64 (8 + (l0_2.length : Int)))) = false := beq_eq_false_iff_ne.mpr c63
               have c63b1 : (t126 != (wrap64 (8 + (l0_2.length : Int)))) = true := bne_iff_ne.mpr c63
               obtain rfl := Option.some.inj H
               have hnb68 := NB101_121.out
               have hnc68 := NB121_101.out
               have hcz69_0 := cz BK101.out 0 (.string a0_0)
               have hcz69_1 := cz BK101.out 1 (.slice A0_1 l0_1.length c0_1)
               have hcz69_2 := cz BK101.out 2 (.slice A0_2 l0_2.length c0_2)
               have hcz69_3 := cz BK101.out 3 (.slice A0_3 l0_3.length c0_3)
               have hcz69_4 := cz BK101.out 4 (.slice A0_4 l0_4.length c0_4)
               have hcz69_5 := cz BK101.out 5 (.slice A0_5 l0_5.length c0_5)
               have hfz69_0 := blk_frozen BK101.out 0
               have hfz69_1 := blk_frozen BK101.out 1
               have hfz69_2 := blk_frozen BK101.out 2
               have hfz69_3 := blk_frozen BK101.out 3
               have hfz69_4 := blk_frozen BK101.out 4
               have hfz69_5 := blk_frozen BK101.out 5
               go_wp2
               go_ret
               exact ⟨by first | rfl | (simp [errW_none, errW_some] <;> rfl) | (simp [*, errW_none, errW_some] <;> rfl), tg2 HB.out GE101.out GE121.out⟩
             ·rw [if_neg c62] at H
              have c62b0 : (t125 == 3) = false := beq_eq_false_iff_ne.mpr c62
              have c62b1 : (t125 != 3) = true := bne_iff_ne.mpr c62
              obtain rfl := Option.some.inj H
              go_wp2
              go_ret
              exact ⟨by first | rfl | (simp [errW_none, errW_some] <;> rfl) | (simp [*, errW_none, errW_some] <;> rfl), tg2 HB.out GE101.out GE121.out⟩
            ·replace c61 := Bool.eq_false_iff.mpr c61
             subst c61
             have H1 : ((budwoodref10_Copy.f a0_0 l0_1 l0_2 l0_3 l0_4 l0_5).bind fun bt131 => (if bt131.2.2.2.2.1.length < 35184372088832 then (if t125 = 0 then ((valid_Check.f kj40 bt131.1 bt131.2.1 bt131.2.2.1 bt131.2.2.2.1 (bt131.2.2.2.2.1 ++ [7]) bt131.2.2.2.2.2).bind fun t151 => (if ((t151 == 0) == (decide ((l0_4.length : Int) < 128))) = true then ((budwoodlaw11_awake.f kj40).bind fun t152 => (some t152)) else (some false))) else (some false)) else (none))) = some r := by rw [if_neg (show ¬ (false = true) by decide)] at H; exact H
             clear H
             have H := H1
             clear H1
             replace H := Option.bind_eq_some_iff.mp H
             obtain ⟨⟨t131, t132, t135, t138, t141, t144⟩, A700, H⟩ := H
             replace H : (if t141.length < 35184372088832 then (if t125 = 0 then ((valid_Check.f kj40 t131 t132 t135 t138 (t141 ++ [7]) t144).bind fun t151 => (if ((t151 == 0) == (decide ((l0_4.length : Int) < 128))) = true then ((budwoodlaw11_awake.f kj40).bind fun t152 => (some t152)) else (some false))) else (some false)) else (none)) = some r := H
             have A70 := Aside0.mk A700
             clear A700
             by_cases c71 : t141.length < 35184372088832
             ·rw [if_pos c71] at H
              have LMc71 := Aside0.mk c71
              clear c71
              obtain ⟨y148, hy148⟩ : ∃ y_ : List Int, y_ = (t141 ++ [7]) := ⟨_, rfl⟩
              replace H : (if t125 = 0 then ((valid_Check.f kj40 t131 t132 t135 t138 y148 t144).bind fun t151 => (if ((t151 == 0) == (decide ((l0_4.length : Int) < 128))) = true then ((budwoodlaw11_awake.f kj40).bind fun t152 => (some t152)) else (some false))) else (some false)) = some r := by first | (rw [hy148]; with_reducible exact H) | (have H2_ := (Option.bind_some _ _).symm.trans H; rw [hy148]; with_reducible exact H2_) | (have H2_ := (Option.bind_some _ _).symm.trans H; with_reducible exact H2_) | with_reducible exact H | (rw [hy148]; exact H) | exact H
              have Ny148 := Aside0.mk hy148
              clear hy148
              by_cases c72 : t125 = 0
              ·rw [if_pos c72] at H
               have c72b0 : (t125 == 0) = true := beq_iff_eq.mpr c72
               have c72b1 : (t125 != 0) = false := bne_eq_false_iff_eq.mpr c72
               clear c72
               replace H := Option.bind_eq_some_iff.mp H
               obtain ⟨t151, A730, H⟩ := H
               replace H : (if ((t151 == 0) == (decide ((l0_4.length : Int) < 128))) = true then ((budwoodlaw11_awake.f kj40).bind fun t152 => (some t152)) else (some false)) = some r := H
               have A73 := Aside0.mk A730
               clear A730
               by_cases c74 : ((t151 == 0) == (decide ((l0_4.length : Int) < 128))) = true
               ·rw [if_pos c74] at H
                have c74b0 : ((t151 == 0) == (decide ((l0_4.length : Int) < 128))) = true := c74
                (try (have c74b1 : decide ((t151 == 0) = (decide ((l0_4.length : Int) < 128))) = true := by simpa using c74))
                (try (have c74b2 : ((t151 == 0) == (decide ((l0_4.length : Int) < 128))) = true := by simpa using c74))
                clear c74
                replace H := Option.bind_eq_some_iff.mp H
                obtain ⟨t152, A750, H⟩ := H
                replace H : (some t152) = some r := H
                have A75 := Aside0.mk A750
                clear A750
                obtain rfl := Option.some.inj H
                have hnb76 := NB101_121.out
                have hnc76 := NB121_101.out
                have hcz77_0 := cz BK101.out 0 (.string a0_0)
                have hcz77_1 := cz BK101.out 1 (.slice A0_1 l0_1.length c0_1)
                have hcz77_2 := cz BK101.out 2 (.slice A0_2 l0_2.length c0_2)
                have hcz77_3 := cz BK101.out 3 (.slice A0_3 l0_3.length c0_3)
                have hcz77_4 := cz BK101.out 4 (.slice A0_4 l0_4.length c0_4)
                have hcz77_5 := cz BK101.out 5 (.slice A0_5 l0_5.length c0_5)
                have hfz77_0 := blk_frozen BK101.out 0
                have hfz77_1 := blk_frozen BK101.out 1
                have hfz77_2 := blk_frozen BK101.out 2
                have hfz77_3 := blk_frozen BK101.out 3
                have hfz77_4 := blk_frozen BK101.out 4
                have hfz77_5 := blk_frozen BK101.out 5
                try go_wp2_with (first | ((with_reducible refine gate_callee (f := 15) rfl ?_); refine goesL_ (some 93) rfl rfl Tryd.func15 (by kernel_rfl) rfl #[.agg #[.string a0_0, .slice A0_1 l0_1.length c0_1, .slice A0_2 l0_2.length c0_2, .slice A0_3 l0_3.length c0_3, .slice A0_4 l0_4.length c0_4, .slice A0_5 l0_5.length c0_5]] rfl tm ?_; (with_reducible refine (budwoodref10_Copy.calls a0_0 _ _ l0_1 _ _ l0_2 _ _ l0_3 _ _ l0_4 _ _ l0_5 t131 t132 t135 t138 t141 t144 _ ?side1 ?side2 ?side3 ?side4 ?side5 ?side6 ?side7 ?side8 ?side9 ?side10 A70.out).mono ?_); (case side1 => exact tc (Kd.C_below HR0_1.out HB.out)); (case side2 => exact HC0_1.out); (case side3 => exact tc (Kd.C_below HR0_2.out HB.out)); (case side4 => exact HC0_2.out); (case side5 => exact tc (Kd.C_below HR0_3.out HB.out)); (case side6 => exact HC0_3.out); (case side7 => exact tc (Kd.C_below HR0_4.out HB.out)); (case side8 => exact HC0_4.out); (case side9 => exact tc (Kd.C_below HR0_5.out HB.out)); (case side10 => exact HC0_5.out); rintro e w78 ⟨v133, v136, v139, v142, v145, rfl, ho0, ho1, ho2, ho3, ho4, hb⟩; refine ⟨_, rfl, ?_⟩; have n0_ := Aside0.mk (Kd.R_mono (Kd.R_told (Kd.R_told (Kd.R_old (tk HO_122001.out) hb) (Kd.R_base ho0)) (Kd.R_base ho1)) (fun _ h_ => h_.1)); have n1_ := Aside0.mk (Kd.R_mono (Kd.R_told (Kd.R_told (Kd.R_old (tk HO_122002.out) hb) (Kd.R_base ho0)) (Kd.R_base ho1)) (fun _ h_ => h_.1)); have n2_ := Aside0.mk (Kd.R_mono (Kd.R_told (Kd.R_told (Kd.R_old (tk HO_122003.out) hb) (Kd.R_base ho2)) (Kd.R_base ho3)) (fun _ h_ => h_.1)); have n3_ := Aside0.mk (Kd.R_mono (Kd.R_told (Kd.R_told (Kd.R_old (tk HO_122004.out) hb) (Kd.R_base ho2)) (Kd.R_base ho3)) (fun _ h_ => h_.1)); have n4_ := Aside0.mk (Kd.R_elder' (tk HO_122005.out) (Kd.R_base ho4) hb); have n5_ := Aside0.mk (Kd.R_lower (Kd.R_new' (Kd.R_new' ho0 (Kd.R_lt (tk HO_122001.out))) (Kd.R_lt (tk HO_122002.out))) (below_size (tg2 HB.out GE101.out GE121.out))); have n6_ := Aside0.mk (Kd.R_lower (Kd.R_new' (Kd.R_new' ho1 (Kd.R_lt (tk HO_122001.out))) (Kd.R_lt (tk HO_122002.out))) (below_size (tg2 HB.out GE101.out GE121.out))); have n7_ := Aside0.mk (Kd.R_lower (Kd.R_new' (Kd.R_new' ho2 (Kd.R_lt (tk HO_122003.out))) (Kd.R_lt (tk HO_122004.out))) (below_size (tg2 HB.out GE101.out GE121.out))); have n8_ := Aside0.mk (Kd.R_lower (Kd.R_new' (Kd.R_new' ho3 (Kd.R_lt (tk HO_122003.out))) (Kd.R_lt (tk HO_122004.out))) (below_size (tg2 HB.out GE101.out GE121.out))); have n9_ := Aside0.mk (Kd.R_lower (Kd.R_new' ho4 (Kd.R_lt (tk HO_122005.out))) (below_size (tg2 HB.out GE101.out GE121.out))); have n10_ := ba BK101.out hb; have n11_ := ba BK121.out hb; have n12_ := Aside0.mk (below_step (tg2 HB.out GE101.out GE121.out) hb); clear HO_122001; clear HO_122002; clear HO_122003; clear HO_122004; clear HO_122005; clear BK101; clear BK121; clear HB; have HO_122001 := n0_; have HO_122002 := n1_; have HO_122003 := n2_; have HO_122004 := n3_; have HO_122005 := n4_; have HO134 := n5_; have HO137 := n6_; have HO140 := n7_; have HO143 := n8_; have HO146 := n9_; have BK101 := n10_; have BK121 := n11_; have HB := n12_; clear n0_ n1_ n2_ n3_ n4_ n5_ n6_ n7_ n8_ n9_ n10_ n11_ n12_; (try clear hb); (try clear hb2); (try clear hk); (try clear hi); (try clear ho0); (try clear ho1); (try clear ho2); (try clear ho3); (try clear ho4)) | ((with_reducible refine gate_dst (N := 10) rfl ?_); (try (refine gate_guard (by rfl) ?_; dsimp only)); refine box_event ?hg (N := 10) ?hd (cs := #[.string (⟨#[]⟩ : ByteArray), .slice none 0 0, .slice none 0 0, .slice none 0 0, .slice none 0 0, .slice none 0 0]) (t := 26) ?hr ?_; (case hd => rfl); (case hg => rfl); (case hr => first | (go_simp; done) | (go_simp; rfl)); intro gb147 hg w79 hbox hb; have n0_ := ra HO_122001.out hb; have n1_ := ra HO_122002.out hb; have n2_ := ra HO_122003.out hb; have n3_ := ra HO_122004.out hb; have n4_ := ra HO_122005.out hb; have n5_ := ra HO134.out hb; have n6_ := ra HO137.out hb; have n7_ := ra HO140.out hb; have n8_ := ra HO143.out hb; have n9_ := ra HO146.out hb; have n10_ := ba BK101.out hb; have n11_ := ba BK121.out hb; have n12_ := Aside0.mk (below_step (tg2 HB.out GE101.out GE121.out) hb); have n13_ := Aside0.mk (hbox); have n14_ := Aside0.mk ((by rw [hg]; exact (below_size (tg2 HB.out GE101.out GE121.out)) : w.heap.size ≤ gb147)); have n15_ := Aside0.mk ((by rw [hg]; exact (below_size (tg2 HB.out GE101.out GE121.out)) : w.heap.size ≤ gb147)); have n16_ := Aside0.mk ((by rw [hg]; exact Nat.ne_of_lt (blk_lt (g := gb101) (o := .cells #[.string a0_0, .slice A0_1 l0_1.length c0_1, .slice A0_2 l0_2.length c0_2, .slice A0_3 l0_3.length c0_3, .slice A0_4 l0_4.length c0_4, .slice A0_5 l0_5.length c0_5] 26 (0, 0)) (tb BK101.out)) : gb101 ≠ gb147)); have n17_ := Aside0.mk ((by rw [hg]; exact Nat.ne_of_gt (blk_lt (g := gb101) (o := .cells #[.string a0_0, .slice A0_1 l0_1.length c0_1, .slice A0_2 l0_2.length c0_2, .slice A0_3 l0_3.length c0_3, .slice A0_4 l0_4.length c0_4, .slice A0_5 l0_5.length c0_5] 26 (0, 0)) (tb BK101.out)) : gb147 ≠ gb101)); have n18_ := Aside0.mk ((by rw [hg]; exact Nat.ne_of_lt (blk_lt (g := gb121) (o := .cells #[.string t105, .slice Ao25 t106.length co25, .slice Ao31 y122.length co31, .slice Ao27 t112.length co27, .slice Ao28 t115.length co28, .slice Ao29 t118.length co29] 26 (0, 0)) (tb BK121.out)) : gb121 ≠ gb147)); have n19_ := Aside0.mk ((by rw [hg]; exact Nat.ne_of_gt (blk_lt (g := gb121) (o := .cells #[.string t105, .slice Ao25 t106.length co25, .slice Ao31 y122.length co31, .slice Ao27 t112.length co27, .slice Ao28 t115.length co28, .slice Ao29 t118.length co29] 26 (0, 0)) (tb BK121.out)) : gb147 ≠ gb121)); clear HO_122001; clear HO_122002; clear HO_122003; clear HO_122004; clear HO_122005; clear HO134; clear HO137; clear HO140; clear HO143; clear HO146; clear BK101; clear BK121; clear HB; have HO_122001 := n0_; have HO_122002 := n1_; have HO_122003 := n2_; have HO_122004 := n3_; have HO_122005 := n4_; have HO134 := n5_; have HO137 := n6_; have HO140 := n7_; have HO143 := n8_; have HO146 := n9_; have BK101 := n10_; have BK121 := n11_; have HB := n12_; have BK147 := n13_; have GW147 := n14_; have GE147 := n15_; have NB101_147 := n16_; have NB147_101 := n17_; have NB121_147 := n18_; have NB147_121 := n19_; clear n0_ n1_ n2_ n3_ n4_ n5_ n6_ n7_ n8_ n9_ n10_ n11_ n12_ n13_ n14_ n15_ n16_ n17_ n18_ n19_; clear hb hbox hg; have hnb80 := NB147_101.out; have hnc80 := NB101_147.out; have hnb81 := NB147_121.out; have hnc81 := NB121_147.out; have hcz82_0 := cz BK147.out 0 (.string (⟨#[]⟩ : ByteArray)); have hcz82_1 := cz BK147.out 1 (.slice none 0 0); have hcz82_2 := cz BK147.out 2 (.slice none 0 0); have hcz82_3 := cz BK147.out 3 (.slice none 0 0); have hcz82_4 := cz BK147.out 4 (.slice none 0 0); have hcz82_5 := cz BK147.out 5 (.slice none 0 0); have hfz82_0 := blk_frozen BK147.out 0; have hfz82_1 := blk_frozen BK147.out 1; have hfz82_2 := blk_frozen BK147.out 2; have hfz82_3 := blk_frozen BK147.out 3; have hfz82_4 := blk_frozen BK147.out 4; have hfz82_5 := blk_frozen BK147.out 5; obtain ⟨Ao83, co83, eo83⟩ := Kd.R_slice HO134.out; subst eo83; obtain ⟨Ao84, co84, eo84⟩ := Kd.R_slice HO137.out; subst eo84; obtain ⟨Ao85, co85, eo85⟩ := Kd.R_slice HO140.out; subst eo85; obtain ⟨Ao86, co86, eo86⟩ := Kd.R_slice HO143.out; subst eo86; obtain ⟨Ao87, co87, eo87⟩ := Kd.R_slice HO146.out; subst eo87) | ((with_reducible refine gate_builtin (b := .append) (xs := #[.tmp 95, .tmp 96]) rfl ?_); (try (refine gate_guard (by rfl) ?_; dsimp only)); at_builtin; refine Kd.R_append (Kd.int .u32) (w0 := w) w.heap.size rfl (.tmp 95) (.tmp 96) 23 44 (.int .u32 0) 4 rfl Tryd.underlying23 info44 rfl (by decide) (by omega) (.slice Ao86 t141.length co86) t141 7 [.int .u32 7] (fun k_ => some k_ ≠ (.slice Ao27 t112.length co27 : Value).ownBlock ∧ some k_ ≠ (.slice Ao28 t115.length co28 : Value).ownBlock ∧ some k_ ≠ (.slice Ao85 t138.length co85 : Value).ownBlock) (fun _ => False) rfl (by first | (go_simp; done) | (go_simp; rfl)) ?aP (fun _ hk => hk.elim) ?aF ?aO ?aB ?aS ?aL ?_; (case aP => exact rfl); (case aB => exact (tg3 HB.out GE101.out GE121.out GE147.out)); (case aF => exact (fun k_ hk => ⟨Kd.fresh' (Kd.R_lt (by (with_reducible repeat (first | apply Kd.R_alloc | apply Kd.R_drewN | apply Kd.R_drew)); exact (Kd.R_mono (Kd.R_far (p := ⟨gb147, 5, none⟩) (Kd.R_far (p := ⟨gb147, 4, none⟩) (Kd.R_far (p := ⟨gb147, 3, none⟩) (Kd.R_far (p := ⟨gb147, 2, none⟩) (Kd.R_far (p := ⟨gb147, 1, none⟩) (Kd.R_far (p := ⟨gb147, 0, none⟩) (Kd.R_types HO_122003.out BK147.out (by decide)) (fun _ hk => hk.2) (.string t131)) (fun _ hk => hk.2) (.slice Ao83 t132.length co83)) (fun _ hk => hk.2) (.slice Ao84 t135.length co84)) (fun _ hk => hk.2) (.slice Ao85 t138.length co85)) (fun _ hk => hk.2) (.slice Ao86 t141.length co86)) (fun _ hk => hk.2) (.slice Ao87 t144.length co87)) (fun _ h_ => h_.1)))) k_ hk, Kd.fresh' (Kd.R_lt (by (with_reducible repeat (first | apply Kd.R_alloc | apply Kd.R_drewN | apply Kd.R_drew)); exact (Kd.R_mono (Kd.R_far (p := ⟨gb147, 5, none⟩) (Kd.R_far (p := ⟨gb147, 4, none⟩) (Kd.R_far (p := ⟨gb147, 3, none⟩) (Kd.R_far (p := ⟨gb147, 2, none⟩) (Kd.R_far (p := ⟨gb147, 1, none⟩) (Kd.R_far (p := ⟨gb147, 0, none⟩) (Kd.R_types HO_122004.out BK147.out (by decide)) (fun _ hk => hk.2) (.string t131)) (fun _ hk => hk.2) (.slice Ao83 t132.length co83)) (fun _ hk => hk.2) (.slice Ao84 t135.length co84)) (fun _ hk => hk.2) (.slice Ao85 t138.length co85)) (fun _ hk => hk.2) (.slice Ao86 t141.length co86)) (fun _ hk => hk.2) (.slice Ao87 t144.length co87)) (fun _ h_ => h_.1)))) k_ hk, Kd.fresh' (Kd.R_lt (by (with_reducible repeat (first | apply Kd.R_alloc | apply Kd.R_drewN | apply Kd.R_drew)); exact (Kd.R_mono (Kd.R_far (p := ⟨gb147, 5, none⟩) (Kd.R_far (p := ⟨gb147, 4, none⟩) (Kd.R_far (p := ⟨gb147, 3, none⟩) (Kd.R_far (p := ⟨gb147, 2, none⟩) (Kd.R_far (p := ⟨gb147, 1, none⟩) (Kd.R_far (p := ⟨gb147, 0, none⟩) (Kd.R_types HO140.out BK147.out (by decide)) (fun _ hk => hk.2) (.string t131)) (fun _ hk => hk.2) (.slice Ao83 t132.length co83)) (fun _ hk => hk.2) (.slice Ao84 t135.length co84)) (fun _ hk => hk.2) (.slice Ao85 t138.length co85)) (fun _ hk => hk.2) (.slice Ao86 t141.length co86)) (fun _ hk => hk.2) (.slice Ao87 t144.length co87)) (fun _ h_ => h_.1)))) k_ hk⟩)); (case aO => exact (by (with_reducible repeat (first | apply Kd.R_alloc | apply Kd.R_drewN | apply Kd.R_drew)); exact Kd.R_mono (Kd.R_far (p := ⟨gb147, 5, none⟩) (Kd.R_far (p := ⟨gb147, 4, none⟩) (Kd.R_far (p := ⟨gb147, 3, none⟩) (Kd.R_far (p := ⟨gb147, 2, none⟩) (Kd.R_far (p := ⟨gb147, 1, none⟩) (Kd.R_far (p := ⟨gb147, 0, none⟩) (Kd.R_types HO143.out BK147.out (by decide)) (fun _ hk => hk.2) (.string t131)) (fun _ hk => hk.2) (.slice Ao83 t132.length co83)) (fun _ hk => hk.2) (.slice Ao84 t135.length co84)) (fun _ hk => hk.2) (.slice Ao85 t138.length co85)) (fun _ hk => hk.2) (.slice Ao86 t141.length co86)) (fun _ hk => hk.2) (.slice Ao87 t144.length co87)) (fun _ hk => ⟨hk.1.1.2, ⟨hk.1.2, hk.1.1.1⟩⟩))); (case aS => exact (below_size (tg3 HB.out GE101.out GE121.out GE147.out))); (case aL => have := LMc71.out; omega); intro v149 w88 ho hb hg hat; rw [← Ny148.out] at ho; have n0_ := Aside0.mk (Kd.R_over' (by (with_reducible repeat (first | apply Kd.R_alloc | apply Kd.R_drewN | apply Kd.R_drew)); exact (Kd.R_mono (Kd.R_far (p := ⟨gb147, 5, none⟩) (Kd.R_far (p := ⟨gb147, 4, none⟩) (Kd.R_far (p := ⟨gb147, 3, none⟩) (Kd.R_far (p := ⟨gb147, 2, none⟩) (Kd.R_far (p := ⟨gb147, 1, none⟩) (Kd.R_far (p := ⟨gb147, 0, none⟩) (Kd.R_types HO_122001.out BK147.out (by decide)) (fun _ hk => hk.2) (.string t131)) (fun _ hk => hk.2) (.slice Ao83 t132.length co83)) (fun _ hk => hk.2) (.slice Ao84 t135.length co84)) (fun _ hk => hk.2) (.slice Ao85 t138.length co85)) (fun _ hk => hk.2) (.slice Ao86 t141.length co86)) (fun _ hk => hk.2) (.slice Ao87 t144.length co87)) (fun _ h_ => h_.1))) (Kd.R_typed (by (with_reducible repeat (first | apply Kd.R_alloc | apply Kd.R_drewN | apply Kd.R_drew)); exact (Kd.R_mono (Kd.R_far (p := ⟨gb147, 5, none⟩) (Kd.R_far (p := ⟨gb147, 4, none⟩) (Kd.R_far (p := ⟨gb147, 3, none⟩) (Kd.R_far (p := ⟨gb147, 2, none⟩) (Kd.R_far (p := ⟨gb147, 1, none⟩) (Kd.R_far (p := ⟨gb147, 0, none⟩) (Kd.R_types HO143.out BK147.out (by decide)) (fun _ hk => hk.2) (.string t131)) (fun _ hk => hk.2) (.slice Ao83 t132.length co83)) (fun _ hk => hk.2) (.slice Ao84 t135.length co84)) (fun _ hk => hk.2) (.slice Ao85 t138.length co85)) (fun _ hk => hk.2) (.slice Ao86 t141.length co86)) (fun _ hk => hk.2) (.slice Ao87 t144.length co87)) (fun _ h_ => h_.1)))) (by decide) hg); have n1_ := Aside0.mk (Kd.R_over' (by (with_reducible repeat (first | apply Kd.R_alloc | apply Kd.R_drewN | apply Kd.R_drew)); exact (Kd.R_mono (Kd.R_far (p := ⟨gb147, 5, none⟩) (Kd.R_far (p := ⟨gb147, 4, none⟩) (Kd.R_far (p := ⟨gb147, 3, none⟩) (Kd.R_far (p := ⟨gb147, 2, none⟩) (Kd.R_far (p := ⟨gb147, 1, none⟩) (Kd.R_far (p := ⟨gb147, 0, none⟩) (Kd.R_types HO_122002.out BK147.out (by decide)) (fun _ hk => hk.2) (.string t131)) (fun _ hk => hk.2) (.slice Ao83 t132.length co83)) (fun _ hk => hk.2) (.slice Ao84 t135.length co84)) (fun _ hk => hk.2) (.slice Ao85 t138.length co85)) (fun _ hk => hk.2) (.slice Ao86 t141.length co86)) (fun _ hk => hk.2) (.slice Ao87 t144.length co87)) (fun _ h_ => h_.1))) (Kd.R_typed (by (with_reducible repeat (first | apply Kd.R_alloc | apply Kd.R_drewN | apply Kd.R_drew)); exact (Kd.R_mono (Kd.R_far (p := ⟨gb147, 5, none⟩) (Kd.R_far (p := ⟨gb147, 4, none⟩) (Kd.R_far (p := ⟨gb147, 3, none⟩) (Kd.R_far (p := ⟨gb147, 2, none⟩) (Kd.R_far (p := ⟨gb147, 1, none⟩) (Kd.R_far (p := ⟨gb147, 0, none⟩) (Kd.R_types HO143.out BK147.out (by decide)) (fun _ hk => hk.2) (.string t131)) (fun _ hk => hk.2) (.slice Ao83 t132.length co83)) (fun _ hk => hk.2) (.slice Ao84 t135.length co84)) (fun _ hk => hk.2) (.slice Ao85 t138.length co85)) (fun _ hk => hk.2) (.slice Ao86 t141.length co86)) (fun _ hk => hk.2) (.slice Ao87 t144.length co87)) (fun _ h_ => h_.1)))) (by decide) hg); have n2_ := Aside0.mk (Kd.R_after (ok := (fun k_ => some k_ ≠ (.slice Ao28 t115.length co28 : Value).ownBlock ∧ some k_ ≠ (.slice Ao85 t138.length co85 : Value).ownBlock)) (by (with_reducible repeat (first | apply Kd.R_alloc | apply Kd.R_drewN | apply Kd.R_drew)); exact Kd.R_mono (Kd.R_far (p := ⟨gb147, 5, none⟩) (Kd.R_far (p := ⟨gb147, 4, none⟩) (Kd.R_far (p := ⟨gb147, 3, none⟩) (Kd.R_far (p := ⟨gb147, 2, none⟩) (Kd.R_far (p := ⟨gb147, 1, none⟩) (Kd.R_far (p := ⟨gb147, 0, none⟩) (Kd.R_types HO_122003.out BK147.out (by decide)) (fun _ hk => hk.2) (.string t131)) (fun _ hk => hk.2) (.slice Ao83 t132.length co83)) (fun _ hk => hk.2) (.slice Ao84 t135.length co84)) (fun _ hk => hk.2) (.slice Ao85 t138.length co85)) (fun _ hk => hk.2) (.slice Ao86 t141.length co86)) (fun _ hk => hk.2) (.slice Ao87 t144.length co87)) (fun _ hk => ⟨⟨hk.1.1.1, hk.1.1.2⟩, hk.1.2⟩)) hg hat); have n3_ := Aside0.mk (Kd.R_after (ok := (fun k_ => some k_ ≠ (.slice Ao27 t112.length co27 : Value).ownBlock ∧ some k_ ≠ (.slice Ao85 t138.length co85 : Value).ownBlock)) (by (with_reducible repeat (first | apply Kd.R_alloc | apply Kd.R_drewN | apply Kd.R_drew)); exact Kd.R_mono (Kd.R_far (p := ⟨gb147, 5, none⟩) (Kd.R_far (p := ⟨gb147, 4, none⟩) (Kd.R_far (p := ⟨gb147, 3, none⟩) (Kd.R_far (p := ⟨gb147, 2, none⟩) (Kd.R_far (p := ⟨gb147, 1, none⟩) (Kd.R_far (p := ⟨gb147, 0, none⟩) (Kd.R_types HO_122004.out BK147.out (by decide)) (fun _ hk => hk.2) (.string t131)) (fun _ hk => hk.2) (.slice Ao83 t132.length co83)) (fun _ hk => hk.2) (.slice Ao84 t135.length co84)) (fun _ hk => hk.2) (.slice Ao85 t138.length co85)) (fun _ hk => hk.2) (.slice Ao86 t141.length co86)) (fun _ hk => hk.2) (.slice Ao87 t144.length co87)) (fun _ hk => ⟨⟨hk.1.1.1, hk.1.1.2⟩, hk.1.2⟩)) hg hat); have n4_ := Aside0.mk (Kd.R_over' (by (with_reducible repeat (first | apply Kd.R_alloc | apply Kd.R_drewN | apply Kd.R_drew)); exact (Kd.R_mono (Kd.R_far (p := ⟨gb147, 5, none⟩) (Kd.R_far (p := ⟨gb147, 4, none⟩) (Kd.R_far (p := ⟨gb147, 3, none⟩) (Kd.R_far (p := ⟨gb147, 2, none⟩) (Kd.R_far (p := ⟨gb147, 1, none⟩) (Kd.R_far (p := ⟨gb147, 0, none⟩) (Kd.R_types HO_122005.out BK147.out (by decide)) (fun _ hk => hk.2) (.string t131)) (fun _ hk => hk.2) (.slice Ao83 t132.length co83)) (fun _ hk => hk.2) (.slice Ao84 t135.length co84)) (fun _ hk => hk.2) (.slice Ao85 t138.length co85)) (fun _ hk => hk.2) (.slice Ao86 t141.length co86)) (fun _ hk => hk.2) (.slice Ao87 t144.length co87)) (fun _ h_ => h_.1))) (Kd.R_typed (by (with_reducible repeat (first | apply Kd.R_alloc | apply Kd.R_drewN | apply Kd.R_drew)); exact (Kd.R_mono (Kd.R_far (p := ⟨gb147, 5, none⟩) (Kd.R_far (p := ⟨gb147, 4, none⟩) (Kd.R_far (p := ⟨gb147, 3, none⟩) (Kd.R_far (p := ⟨gb147, 2, none⟩) (Kd.R_far (p := ⟨gb147, 1, none⟩) (Kd.R_far (p := ⟨gb147, 0, none⟩) (Kd.R_types HO143.out BK147.out (by decide)) (fun _ hk => hk.2) (.string t131)) (fun _ hk => hk.2) (.slice Ao83 t132.length co83)) (fun _ hk => hk.2) (.slice Ao84 t135.length co84)) (fun _ hk => hk.2) (.slice Ao85 t138.length co85)) (fun _ hk => hk.2) (.slice Ao86 t141.length co86)) (fun _ hk => hk.2) (.slice Ao87 t144.length co87)) (fun _ h_ => h_.1)))) (by decide) hg); have n5_ := Aside0.mk (blk_grown (g := gb101) (o := .cells #[.string a0_0, .slice A0_1 l0_1.length c0_1, .slice A0_2 l0_2.length c0_2, .slice A0_3 l0_3.length c0_3, .slice A0_4 l0_4.length c0_4, .slice A0_5 l0_5.length c0_5] 26 (0, 0)) (by (with_reducible repeat (first | refine blk_drewN ?_ _ | refine blk_drew ?_ | refine blk_alloc ?_ _)); refine blk_far ?_ NB101_147.out _; (with_reducible repeat (first | refine blk_drewN ?_ _ | refine blk_drew ?_ | refine blk_alloc ?_ _)); refine blk_far ?_ NB101_147.out _; (with_reducible repeat (first | refine blk_drewN ?_ _ | refine blk_drew ?_ | refine blk_alloc ?_ _)); refine blk_far ?_ NB101_147.out _; (with_reducible repeat (first | refine blk_drewN ?_ _ | refine blk_drew ?_ | refine blk_alloc ?_ _)); refine blk_far ?_ NB101_147.out _; (with_reducible repeat (first | refine blk_drewN ?_ _ | refine blk_drew ?_ | refine blk_alloc ?_ _)); refine blk_far ?_ NB101_147.out _; (with_reducible repeat (first | refine blk_drewN ?_ _ | refine blk_drew ?_ | refine blk_alloc ?_ _)); refine blk_far ?_ NB101_147.out _; (with_reducible repeat (first | refine blk_drewN ?_ _ | refine blk_drew ?_ | refine blk_alloc ?_ _)); exact BK101.out) hg (Kd.R_ne HO143.out BK101.out (by decide))); have n6_ := Aside0.mk (blk_grown (g := gb121) (o := .cells #[.string t105, .slice Ao25 t106.length co25, .slice Ao31 y122.length co31, .slice Ao27 t112.length co27, .slice Ao28 t115.length co28, .slice Ao29 t118.length co29] 26 (0, 0)) (by (with_reducible repeat (first | refine blk_drewN ?_ _ | refine blk_drew ?_ | refine blk_alloc ?_ _)); refine blk_far ?_ NB121_147.out _; (with_reducible repeat (first | refine blk_drewN ?_ _ | refine blk_drew ?_ | refine blk_alloc ?_ _)); refine blk_far ?_ NB121_147.out _; (with_reducible repeat (first | refine blk_drewN ?_ _ | refine blk_drew ?_ | refine blk_alloc ?_ _)); refine blk_far ?_ NB121_147.out _; (with_reducible repeat (first | refine blk_drewN ?_ _ | refine blk_drew ?_ | refine blk_alloc ?_ _)); refine blk_far ?_ NB121_147.out _; (with_reducible repeat (first | refine blk_drewN ?_ _ | refine blk_drew ?_ | refine blk_alloc ?_ _)); refine blk_far ?_ NB121_147.out _; (with_reducible repeat (first | refine blk_drewN ?_ _ | refine blk_drew ?_ | refine blk_alloc ?_ _)); refine blk_far ?_ NB121_147.out _; (with_reducible repeat (first | refine blk_drewN ?_ _ | refine blk_drew ?_ | refine blk_alloc ?_ _)); exact BK121.out) hg (Kd.R_ne HO143.out BK121.out (by decide))); have n7_ := Aside0.mk (Kd.R_over' (by (with_reducible repeat (first | apply Kd.R_alloc | apply Kd.R_drewN | apply Kd.R_drew)); exact (Kd.R_mono (Kd.R_far (p := ⟨gb147, 5, none⟩) (Kd.R_far (p := ⟨gb147, 4, none⟩) (Kd.R_far (p := ⟨gb147, 3, none⟩) (Kd.R_far (p := ⟨gb147, 2, none⟩) (Kd.R_far (p := ⟨gb147, 1, none⟩) (Kd.R_far (p := ⟨gb147, 0, none⟩) (Kd.R_types HO134.out BK147.out (by decide)) (fun _ hk => hk.2) (.string t131)) (fun _ hk => hk.2) (.slice Ao83 t132.length co83)) (fun _ hk => hk.2) (.slice Ao84 t135.length co84)) (fun _ hk => hk.2) (.slice Ao85 t138.length co85)) (fun _ hk => hk.2) (.slice Ao86 t141.length co86)) (fun _ hk => hk.2) (.slice Ao87 t144.length co87)) (fun _ h_ => h_.1))) (Kd.R_typed (by (with_reducible repeat (first | apply Kd.R_alloc | apply Kd.R_drewN | apply Kd.R_drew)); exact (Kd.R_mono (Kd.R_far (p := ⟨gb147, 5, none⟩) (Kd.R_far (p := ⟨gb147, 4, none⟩) (Kd.R_far (p := ⟨gb147, 3, none⟩) (Kd.R_far (p := ⟨gb147, 2, none⟩) (Kd.R_far (p := ⟨gb147, 1, none⟩) (Kd.R_far (p := ⟨gb147, 0, none⟩) (Kd.R_types HO143.out BK147.out (by decide)) (fun _ hk => hk.2) (.string t131)) (fun _ hk => hk.2) (.slice Ao83 t132.length co83)) (fun _ hk => hk.2) (.slice Ao84 t135.length co84)) (fun _ hk => hk.2) (.slice Ao85 t138.length co85)) (fun _ hk => hk.2) (.slice Ao86 t141.length co86)) (fun _ hk => hk.2) (.slice Ao87 t144.length co87)) (fun _ h_ => h_.1)))) (by decide) hg); have n8_ := Aside0.mk (Kd.R_over' (by (with_reducible repeat (first | apply Kd.R_alloc | apply Kd.R_drewN | apply Kd.R_drew)); exact (Kd.R_mono (Kd.R_far (p := ⟨gb147, 5, none⟩) (Kd.R_far (p := ⟨gb147, 4, none⟩) (Kd.R_far (p := ⟨gb147, 3, none⟩) (Kd.R_far (p := ⟨gb147, 2, none⟩) (Kd.R_far (p := ⟨gb147, 1, none⟩) (Kd.R_far (p := ⟨gb147, 0, none⟩) (Kd.R_types HO137.out BK147.out (by decide)) (fun _ hk => hk.2) (.string t131)) (fun _ hk => hk.2) (.slice Ao83 t132.length co83)) (fun _ hk => hk.2) (.slice Ao84 t135.length co84)) (fun _ hk => hk.2) (.slice Ao85 t138.length co85)) (fun _ hk => hk.2) (.slice Ao86 t141.length co86)) (fun _ hk => hk.2) (.slice Ao87 t144.length co87)) (fun _ h_ => h_.1))) (Kd.R_typed (by (with_reducible repeat (first | apply Kd.R_alloc | apply Kd.R_drewN | apply Kd.R_drew)); exact (Kd.R_mono (Kd.R_far (p := ⟨gb147, 5, none⟩) (Kd.R_far (p := ⟨gb147, 4, none⟩) (Kd.R_far (p := ⟨gb147, 3, none⟩) (Kd.R_far (p := ⟨gb147, 2, none⟩) (Kd.R_far (p := ⟨gb147, 1, none⟩) (Kd.R_far (p := ⟨gb147, 0, none⟩) (Kd.R_types HO143.out BK147.out (by decide)) (fun _ hk => hk.2) (.string t131)) (fun _ hk => hk.2) (.slice Ao83 t132.length co83)) (fun _ hk => hk.2) (.slice Ao84 t135.length co84)) (fun _ hk => hk.2) (.slice Ao85 t138.length co85)) (fun _ hk => hk.2) (.slice Ao86 t141.length co86)) (fun _ hk => hk.2) (.slice Ao87 t144.length co87)) (fun _ h_ => h_.1)))) (by decide) hg); have n9_ := Aside0.mk (Kd.R_after (ok := (fun k_ => some k_ ≠ (.slice Ao27 t112.length co27 : Value).ownBlock ∧ some k_ ≠ (.slice Ao28 t115.length co28 : Value).ownBlock)) (by (with_reducible repeat (first | apply Kd.R_alloc | apply Kd.R_drewN | apply Kd.R_drew)); exact Kd.R_mono (Kd.R_far (p := ⟨gb147, 5, none⟩) (Kd.R_far (p := ⟨gb147, 4, none⟩) (Kd.R_far (p := ⟨gb147, 3, none⟩) (Kd.R_far (p := ⟨gb147, 2, none⟩) (Kd.R_far (p := ⟨gb147, 1, none⟩) (Kd.R_far (p := ⟨gb147, 0, none⟩) (Kd.R_types HO140.out BK147.out (by decide)) (fun _ hk => hk.2) (.string t131)) (fun _ hk => hk.2) (.slice Ao83 t132.length co83)) (fun _ hk => hk.2) (.slice Ao84 t135.length co84)) (fun _ hk => hk.2) (.slice Ao85 t138.length co85)) (fun _ hk => hk.2) (.slice Ao86 t141.length co86)) (fun _ hk => hk.2) (.slice Ao87 t144.length co87)) (fun _ hk => ⟨⟨hk.1.1.2, hk.1.2⟩, hk.1.1.1⟩)) hg hat); have n10_ := Aside0.mk (Kd.R_over' (by (with_reducible repeat (first | apply Kd.R_alloc | apply Kd.R_drewN | apply Kd.R_drew)); exact (Kd.R_mono (Kd.R_far (p := ⟨gb147, 5, none⟩) (Kd.R_far (p := ⟨gb147, 4, none⟩) (Kd.R_far (p := ⟨gb147, 3, none⟩) (Kd.R_far (p := ⟨gb147, 2, none⟩) (Kd.R_far (p := ⟨gb147, 1, none⟩) (Kd.R_far (p := ⟨gb147, 0, none⟩) (Kd.R_types HO146.out BK147.out (by decide)) (fun _ hk => hk.2) (.string t131)) (fun _ hk => hk.2) (.slice Ao83 t132.length co83)) (fun _ hk => hk.2) (.slice Ao84 t135.length co84)) (fun _ hk => hk.2) (.slice Ao85 t138.length co85)) (fun _ hk => hk.2) (.slice Ao86 t141.length co86)) (fun _ hk => hk.2) (.slice Ao87 t144.length co87)) (fun _ h_ => h_.1))) (Kd.R_typed (by (with_reducible repeat (first | apply Kd.R_alloc | apply Kd.R_drewN | apply Kd.R_drew)); exact (Kd.R_mono (Kd.R_far (p := ⟨gb147, 5, none⟩) (Kd.R_far (p := ⟨gb147, 4, none⟩) (Kd.R_far (p := ⟨gb147, 3, none⟩) (Kd.R_far (p := ⟨gb147, 2, none⟩) (Kd.R_far (p := ⟨gb147, 1, none⟩) (Kd.R_far (p := ⟨gb147, 0, none⟩) (Kd.R_types HO143.out BK147.out (by decide)) (fun _ hk => hk.2) (.string t131)) (fun _ hk => hk.2) (.slice Ao83 t132.length co83)) (fun _ hk => hk.2) (.slice Ao84 t135.length co84)) (fun _ hk => hk.2) (.slice Ao85 t138.length co85)) (fun _ hk => hk.2) (.slice Ao86 t141.length co86)) (fun _ hk => hk.2) (.slice Ao87 t144.length co87)) (fun _ h_ => h_.1)))) (by decide) hg); have n11_ := Aside0.mk (blk_grown (g := gb147) (o := .cells #[.string t131, .slice Ao83 t132.length co83, .slice Ao84 t135.length co84, .slice Ao85 t138.length co85, .slice Ao86 t141.length co86, .slice Ao87 t144.length co87] 26 (0, 0)) (by (with_reducible repeat (first | refine blk_drewN ?_ _ | refine blk_drew ?_ | refine blk_alloc ?_ _)); refine blk_put (cs := #[.string t131, .slice Ao83 t132.length co83, .slice Ao84 t135.length co84, .slice Ao85 t138.length co85, .slice Ao86 t141.length co86, .slice none 0 0]) ?_ 5 _ rfl; (with_reducible repeat (first | refine blk_drewN ?_ _ | refine blk_drew ?_ | refine blk_alloc ?_ _)); refine blk_put (cs := #[.string t131, .slice Ao83 t132.length co83, .slice Ao84 t135.length co84, .slice Ao85 t138.length co85, .slice none 0 0, .slice none 0 0]) ?_ 4 _ rfl; (with_reducible repeat (first | refine blk_drewN ?_ _ | refine blk_drew ?_ | refine blk_alloc ?_ _)); refine blk_put (cs := #[.string t131, .slice Ao83 t132.length co83, .slice Ao84 t135.length co84, .slice none 0 0, .slice none 0 0, .slice none 0 0]) ?_ 3 _ rfl; (with_reducible repeat (first | refine blk_drewN ?_ _ | refine blk_drew ?_ | refine blk_alloc ?_ _)); refine blk_put (cs := #[.string t131, .slice Ao83 t132.length co83, .slice none 0 0, .slice none 0 0, .slice none 0 0, .slice none 0 0]) ?_ 2 _ rfl; (with_reducible repeat (first | refine blk_drewN ?_ _ | refine blk_drew ?_ | refine blk_alloc ?_ _)); refine blk_put (cs := #[.string t131, .slice none 0 0, .slice none 0 0, .slice none 0 0, .slice none 0 0, .slice none 0 0]) ?_ 1 _ rfl; (with_reducible repeat (first | refine blk_drewN ?_ _ | refine blk_drew ?_ | refine blk_alloc ?_ _)); refine blk_put (cs := #[.string (⟨#[]⟩ : ByteArray), .slice none 0 0, .slice none 0 0, .slice none 0 0, .slice none 0 0, .slice none 0 0]) ?_ 0 _ rfl; (with_reducible repeat (first | refine blk_drewN ?_ _ | refine blk_drew ?_ | refine blk_alloc ?_ _)); exact BK147.out) hg (Kd.R_ne HO143.out BK147.out (by decide))); have n12_ := Aside0.mk (hb); have n13_ := Aside0.mk (ho); clear HO_122001; clear HO_122002; clear HO_122003; clear HO_122004; clear HO_122005; clear BK101; clear BK121; clear HO134; clear HO137; clear HO140; clear HO146; clear BK147; clear HB; clear HO143; have HO_122001 := n0_; have HO_122002 := n1_; have HO_122003 := n2_; have HO_122004 := n3_; have HO_122005 := n4_; have BK101 := n5_; have BK121 := n6_; have HO134 := n7_; have HO137 := n8_; have HO140 := n9_; have HO146 := n10_; have BK147 := n11_; have HB := n12_; have HO150 := n13_; clear n0_ n1_ n2_ n3_ n4_ n5_ n6_ n7_ n8_ n9_ n10_ n11_ n12_ n13_; clear ho hb hg hat; obtain ⟨Ao89, co89, eo89⟩ := Kd.R_slice HO150.out; subst eo89; have hcz90_0 := cz BK147.out 0 (.string t131); have hcz90_1 := cz BK147.out 1 (.slice Ao83 t132.length co83); have hcz90_2 := cz BK147.out 2 (.slice Ao84 t135.length co84); have hcz90_3 := cz BK147.out 3 (.slice Ao85 t138.length co85); have hcz90_4 := cz BK147.out 4 (.slice Ao86 t141.length co86); have hcz90_5 := cz BK147.out 5 (.slice Ao87 t144.length co87); have hfz90_0 := blk_frozen BK147.out 0; have hfz90_1 := blk_frozen BK147.out 1; have hfz90_2 := blk_frozen BK147.out 2; have hfz90_3 := blk_frozen BK147.out 3; have hfz90_4 := blk_frozen BK147.out 4; have hfz90_5 := blk_frozen BK147.out 5))
                have n0_ : Aside0 (Kd.R Kd.string 9 (w88.setCell ⟨gb147, 4, none⟩ (.slice Ao89 y148.length co89)) w.heap.size (fun k_ => some k_ ≠ (.slice Ao31 y122.length co31 : Value).ownBlock ∧ some k_ ≠ (.slice Ao83 t132.length co83 : Value).ownBlock ∧ some k_ ≠ (.slice Ao84 t135.length co84 : Value).ownBlock) (.slice Ao25 t106.length co25) t106) := ⟨by (with_reducible repeat (first | apply Kd.R_alloc | apply Kd.R_drewN | apply Kd.R_drew)); exact Kd.R_mono (Kd.R_far (p := ⟨gb147, 4, none⟩) (Kd.R_types HO_122001.out BK147.out (by decide)) (fun _ hk => hk.2) (.slice Ao89 y148.length co89)) (fun _ hk => ⟨hk.1.1.1, ⟨hk.1.1.2, hk.1.2⟩⟩)⟩
                have n1_ : Aside0 (Kd.R Kd.string 9 (w88.setCell ⟨gb147, 4, none⟩ (.slice Ao89 y148.length co89)) w.heap.size (fun k_ => some k_ ≠ (.slice Ao25 t106.length co25 : Value).ownBlock ∧ some k_ ≠ (.slice Ao83 t132.length co83 : Value).ownBlock ∧ some k_ ≠ (.slice Ao84 t135.length co84 : Value).ownBlock) (.slice Ao31 y122.length co31) y122) := ⟨by (with_reducible repeat (first | apply Kd.R_alloc | apply Kd.R_drewN | apply Kd.R_drew)); exact Kd.R_mono (Kd.R_far (p := ⟨gb147, 4, none⟩) (Kd.R_types HO_122002.out BK147.out (by decide)) (fun _ hk => hk.2) (.slice Ao89 y148.length co89)) (fun _ hk => ⟨hk.1.1.1, ⟨hk.1.1.2, hk.1.2⟩⟩)⟩
                have n2_ : Aside0 (Kd.R (Kd.int .u32) 44 (w88.setCell ⟨gb147, 4, none⟩ (.slice Ao89 y148.length co89)) w.heap.size (fun k_ => some k_ ≠ (.slice Ao28 t115.length co28 : Value).ownBlock ∧ some k_ ≠ (.slice Ao85 t138.length co85 : Value).ownBlock ∧ some k_ ≠ (.slice Ao89 y148.length co89 : Value).ownBlock) (.slice Ao27 t112.length co27) t112) := ⟨by (with_reducible repeat (first | apply Kd.R_alloc | apply Kd.R_drewN | apply Kd.R_drew)); exact Kd.R_mono (Kd.R_far (p := ⟨gb147, 4, none⟩) (Kd.R_types HO_122003.out BK147.out (by decide)) (fun _ hk => hk.2) (.slice Ao89 y148.length co89)) (fun _ hk => ⟨hk.1.1.1, ⟨hk.1.1.2, hk.1.2⟩⟩)⟩
                have n3_ : Aside0 (Kd.R (Kd.int .u32) 44 (w88.setCell ⟨gb147, 4, none⟩ (.slice Ao89 y148.length co89)) w.heap.size (fun k_ => some k_ ≠ (.slice Ao27 t112.length co27 : Value).ownBlock ∧ some k_ ≠ (.slice Ao85 t138.length co85 : Value).ownBlock ∧ some k_ ≠ (.slice Ao89 y148.length co89 : Value).ownBlock) (.slice Ao28 t115.length co28) t115) := ⟨by (with_reducible repeat (first | apply Kd.R_alloc | apply Kd.R_drewN | apply Kd.R_drew)); exact Kd.R_mono (Kd.R_far (p := ⟨gb147, 4, none⟩) (Kd.R_types HO_122004.out BK147.out (by decide)) (fun _ hk => hk.2) (.slice Ao89 y148.length co89)) (fun _ hk => ⟨hk.1.1.1, ⟨hk.1.1.2, hk.1.2⟩⟩)⟩
                have n4_ : Aside0 (Kd.R k43 43 (w88.setCell ⟨gb147, 4, none⟩ (.slice Ao89 y148.length co89)) w.heap.size (fun k_ => some k_ ≠ (.slice Ao87 t144.length co87 : Value).ownBlock) (.slice Ao29 t118.length co29) t118) := ⟨by (with_reducible repeat (first | apply Kd.R_alloc | apply Kd.R_drewN | apply Kd.R_drew)); exact Kd.R_mono (Kd.R_far (p := ⟨gb147, 4, none⟩) (Kd.R_types HO_122005.out BK147.out (by decide)) (fun _ hk => hk.2) (.slice Ao89 y148.length co89)) (fun _ hk => hk.1.2)⟩
                have n5_ : Aside0 (Kd.R Kd.string 9 (w88.setCell ⟨gb147, 4, none⟩ (.slice Ao89 y148.length co89)) w.heap.size (fun k_ => some k_ ≠ (.slice Ao25 t106.length co25 : Value).ownBlock ∧ some k_ ≠ (.slice Ao31 y122.length co31 : Value).ownBlock ∧ some k_ ≠ (.slice Ao84 t135.length co84 : Value).ownBlock) (.slice Ao83 t132.length co83) t132) := ⟨by (with_reducible repeat (first | apply Kd.R_alloc | apply Kd.R_drewN | apply Kd.R_drew)); exact Kd.R_mono (Kd.R_far (p := ⟨gb147, 4, none⟩) (Kd.R_types HO134.out BK147.out (by decide)) (fun _ hk => hk.2) (.slice Ao89 y148.length co89)) (fun _ hk => ⟨hk.1.1.2, ⟨hk.1.2, hk.1.1.1⟩⟩)⟩
                have n6_ : Aside0 (Kd.R Kd.string 9 (w88.setCell ⟨gb147, 4, none⟩ (.slice Ao89 y148.length co89)) w.heap.size (fun k_ => some k_ ≠ (.slice Ao25 t106.length co25 : Value).ownBlock ∧ some k_ ≠ (.slice Ao31 y122.length co31 : Value).ownBlock ∧ some k_ ≠ (.slice Ao83 t132.length co83 : Value).ownBlock) (.slice Ao84 t135.length co84) t135) := ⟨by (with_reducible repeat (first | apply Kd.R_alloc | apply Kd.R_drewN | apply Kd.R_drew)); exact Kd.R_mono (Kd.R_far (p := ⟨gb147, 4, none⟩) (Kd.R_types HO137.out BK147.out (by decide)) (fun _ hk => hk.2) (.slice Ao89 y148.length co89)) (fun _ hk => ⟨hk.1.1.2, ⟨hk.1.2, hk.1.1.1⟩⟩)⟩
                have n7_ : Aside0 (Kd.R (Kd.int .u32) 44 (w88.setCell ⟨gb147, 4, none⟩ (.slice Ao89 y148.length co89)) w.heap.size (fun k_ => some k_ ≠ (.slice Ao27 t112.length co27 : Value).ownBlock ∧ some k_ ≠ (.slice Ao28 t115.length co28 : Value).ownBlock ∧ some k_ ≠ (.slice Ao89 y148.length co89 : Value).ownBlock) (.slice Ao85 t138.length co85) t138) := ⟨by (with_reducible repeat (first | apply Kd.R_alloc | apply Kd.R_drewN | apply Kd.R_drew)); exact Kd.R_mono (Kd.R_far (p := ⟨gb147, 4, none⟩) (Kd.R_types HO140.out BK147.out (by decide)) (fun _ hk => hk.2) (.slice Ao89 y148.length co89)) (fun _ hk => ⟨hk.1.1.1, ⟨hk.1.1.2, hk.1.2⟩⟩)⟩
                have n8_ : Aside0 (Kd.R k43 43 (w88.setCell ⟨gb147, 4, none⟩ (.slice Ao89 y148.length co89)) w.heap.size (fun k_ => some k_ ≠ (.slice Ao29 t118.length co29 : Value).ownBlock) (.slice Ao87 t144.length co87) t144) := ⟨by (with_reducible repeat (first | apply Kd.R_alloc | apply Kd.R_drewN | apply Kd.R_drew)); exact Kd.R_mono (Kd.R_far (p := ⟨gb147, 4, none⟩) (Kd.R_types HO146.out BK147.out (by decide)) (fun _ hk => hk.2) (.slice Ao89 y148.length co89)) (fun _ hk => hk.1.2)⟩
                have n9_ : Aside0 (Kd.R (Kd.int .u32) 44 (w88.setCell ⟨gb147, 4, none⟩ (.slice Ao89 y148.length co89)) w.heap.size (fun k_ => some k_ ≠ (.slice Ao27 t112.length co27 : Value).ownBlock ∧ some k_ ≠ (.slice Ao28 t115.length co28 : Value).ownBlock ∧ some k_ ≠ (.slice Ao85 t138.length co85 : Value).ownBlock) (.slice Ao89 y148.length co89) y148) := ⟨by (with_reducible repeat (first | apply Kd.R_alloc | apply Kd.R_drewN | apply Kd.R_drew)); exact Kd.R_mono (Kd.R_far (p := ⟨gb147, 4, none⟩) (Kd.R_types HO150.out BK147.out (by decide)) (fun _ hk => hk.2) (.slice Ao89 y148.length co89)) (fun _ hk => ⟨hk.1.1, ⟨hk.1.2.1, hk.1.2.2⟩⟩)⟩
                have n10_ : Aside0 ((w88.setCell ⟨gb147, 4, none⟩ (.slice Ao89 y148.length co89)).heap[gb101]? = some (.cells #[.string a0_0, .slice A0_1 l0_1.length c0_1, .slice A0_2 l0_2.length c0_2, .slice A0_3 l0_3.length c0_3, .slice A0_4 l0_4.length c0_4, .slice A0_5 l0_5.length c0_5] 26 (0, 0))) := ⟨by (with_reducible repeat (first | refine blk_drewN ?_ _ | refine blk_drew ?_ | refine blk_alloc ?_ _)); refine blk_far ?_ NB101_147.out _; (with_reducible repeat (first | refine blk_drewN ?_ _ | refine blk_drew ?_ | refine blk_alloc ?_ _)); exact BK101.out⟩
                have n11_ : Aside0 ((w88.setCell ⟨gb147, 4, none⟩ (.slice Ao89 y148.length co89)).heap[gb121]? = some (.cells #[.string t105, .slice Ao25 t106.length co25, .slice Ao31 y122.length co31, .slice Ao27 t112.length co27, .slice Ao28 t115.length co28, .slice Ao29 t118.length co29] 26 (0, 0))) := ⟨by (with_reducible repeat (first | refine blk_drewN ?_ _ | refine blk_drew ?_ | refine blk_alloc ?_ _)); refine blk_far ?_ NB121_147.out _; (with_reducible repeat (first | refine blk_drewN ?_ _ | refine blk_drew ?_ | refine blk_alloc ?_ _)); exact BK121.out⟩
                have n12_ : Aside0 ((w88.setCell ⟨gb147, 4, none⟩ (.slice Ao89 y148.length co89)).heap[gb147]? = some (.cells #[.string t131, .slice Ao83 t132.length co83, .slice Ao84 t135.length co84, .slice Ao85 t138.length co85, .slice Ao89 y148.length co89, .slice Ao87 t144.length co87] 26 (0, 0))) := ⟨by (with_reducible repeat (first | refine blk_drewN ?_ _ | refine blk_drew ?_ | refine blk_alloc ?_ _)); refine blk_put (cs := #[.string t131, .slice Ao83 t132.length co83, .slice Ao84 t135.length co84, .slice Ao85 t138.length co85, .slice Ao86 t141.length co86, .slice Ao87 t144.length co87]) ?_ 4 _ rfl; (with_reducible repeat (first | refine blk_drewN ?_ _ | refine blk_drew ?_ | refine blk_alloc ?_ _)); exact BK147.out⟩
                have n13_ : Aside0 (Below w.heap.size w (w88.setCell ⟨gb147, 4, none⟩ (.slice Ao89 y148.length co89))) := ⟨tg3 HB.out GE101.out GE121.out GE147.out⟩
                (try clear HO_122001)
                (try clear HO_122002)
                (try clear HO_122003)
                (try clear HO_122004)
                (try clear HO_122005)
                (try clear HO134)
                (try clear HO137)
                (try clear HO140)
                (try clear HO146)
                (try clear HO150)
                (try clear BK101)
                (try clear BK121)
                (try clear BK147)
                (try clear HB)
                generalize (w88.setCell ⟨gb147, 4, none⟩ (.slice Ao89 y148.length co89)) = w91 at n0_ n1_ n2_ n3_ n4_ n5_ n6_ n7_ n8_ n9_ n10_ n11_ n12_ n13_ ⊢
                have HO_122001 := n0_
                have HO_122002 := n1_
                have HO_122003 := n2_
                have HO_122004 := n3_
                have HO_122005 := n4_
                have HO134 := n5_
                have HO137 := n6_
                have HO140 := n7_
                have HO146 := n8_
                have HO150 := n9_
                have BK101 := n10_
                have BK121 := n11_
                have BK147 := n12_
                have HB := n13_
                clear n0_ n1_ n2_ n3_ n4_ n5_ n6_ n7_ n8_ n9_ n10_ n11_ n12_ n13_
                replace HO_122001 := Aside0.mk (Kd.R_drew HO_122001.out)
                replace HO_122002 := Aside0.mk (Kd.R_drew HO_122002.out)
                replace HO_122003 := Aside0.mk (Kd.R_drew HO_122003.out)
                replace HO_122004 := Aside0.mk (Kd.R_drew HO_122004.out)
                replace HO_122005 := Aside0.mk (Kd.R_drew HO_122005.out)
                replace HO134 := Aside0.mk (Kd.R_drew HO134.out)
                replace HO137 := Aside0.mk (Kd.R_drew HO137.out)
                replace HO140 := Aside0.mk (Kd.R_drew HO140.out)
                replace HO146 := Aside0.mk (Kd.R_drew HO146.out)
                replace HO150 := Aside0.mk (Kd.R_drew HO150.out)
                replace BK101 := Aside0.mk (blk_drew BK101.out)
                replace BK121 := Aside0.mk (blk_drew BK121.out)
                replace BK147 := Aside0.mk (blk_drew BK147.out)
                replace HB := Aside0.mk (below_drew1 HB.out)
                refine start_ (n := 16) (S := fun w' => w'.cell? ⟨gb147, 0, none⟩ = some (.string t131) ∧ w'.cell? ⟨gb147, 1, none⟩ = some (.slice Ao83 t132.length co83) ∧ w'.cell? ⟨gb147, 2, none⟩ = some (.slice Ao84 t135.length co84) ∧ w'.cell? ⟨gb147, 3, none⟩ = some (.slice Ao85 t138.length co85) ∧ w'.cell? ⟨gb147, 4, none⟩ = some (.slice Ao89 y148.length co89) ∧ w'.cell? ⟨gb147, 5, none⟩ = some (.slice Ao87 t144.length co87) ∧ w'.cell? ⟨gb101, 0, none⟩ = some (.string a0_0) ∧ w'.cell? ⟨gb101, 1, none⟩ = some (.slice A0_1 l0_1.length c0_1) ∧ w'.cell? ⟨gb101, 2, none⟩ = some (.slice A0_2 l0_2.length c0_2) ∧ w'.cell? ⟨gb101, 3, none⟩ = some (.slice A0_3 l0_3.length c0_3) ∧ w'.cell? ⟨gb101, 4, none⟩ = some (.slice A0_4 l0_4.length c0_4) ∧ w'.cell? ⟨gb101, 5, none⟩ = some (.slice A0_5 l0_5.length c0_5)) (ds := []) #[false, false, false, false, false, false, false, false, false, false, false, false, false, false, false, false] (by kernel_rfl) rfl rfl ⟨(blk_cell BK147.out 0).trans rfl, (blk_cell BK147.out 1).trans rfl, (blk_cell BK147.out 2).trans rfl, (blk_cell BK147.out 3).trans rfl, (blk_cell BK147.out 4).trans rfl, (blk_cell BK147.out 5).trans rfl, (blk_cell BK101.out 0).trans rfl, (blk_cell BK101.out 1).trans rfl, (blk_cell BK101.out 2).trans rfl, (blk_cell BK101.out 3).trans rfl, (blk_cell BK101.out 4).trans rfl, (blk_cell BK101.out 5).trans rfl⟩ (fun hHeld => ?_); refine with_tabW budwoodlaw11_ValidMore.tab19 budwoodlaw11_ValidMore.bits19 (fun HT_ HW_ => ?_)
                generalize w91.drew = w92 at HO_122001 HO_122002 HO_122003 HO_122004 HO_122005 HO134 HO137 HO140 HO146 HO150 BK101 BK121 BK147 HB hHeld ⊢
                refine pure_ (i := 0) (N := some 99) (v := ?_) (a' := ?_) #[true, false, false, false, false, false, false, false, false, false, false, false, false, false, false, false] rfl rfl (any_of HT_.out (by kernel_rfl)) (fun _ _ _ h => h) (Or.inl ⟨by rfl, ?_⟩) ?_ ?_
                rotate_left
                ·intro w'
                 go_simp
                 with_reducible rfl
                rotate_left
                ·simp only [Act.put, List.setIfInBounds_toArray, List.set_cons_zero, List.set_cons_succ, i64_w, i32_w]
                 rfl
                refine pure_ (i := 1) (N := some 100) (v := ?_) (a' := ?_) #[true, true, false, false, false, false, false, false, false, false, false, false, false, false, false, false] rfl rfl (any_of HT_.out (by kernel_rfl)) (fun _ _ _ h => h) (Or.inl ⟨by rfl, ?_⟩) ?_ ?_
                rotate_left
                ·intro w'
                 go_simp
                 with_reducible rfl
                rotate_left
                ·simp only [Act.put, List.setIfInBounds_toArray, List.set_cons_zero, List.set_cons_succ, i64_w, i32_w]
                 rfl
                refine pure_ (i := 2) (N := some 101) (v := ?_) (a' := ?_) #[true, true, true, false, false, false, false, false, false, false, false, false, false, false, false, false] rfl rfl (any_of HT_.out (by kernel_rfl)) (fun _ _ _ h => h) (Or.inl ⟨by rfl, ?_⟩) ?_ ?_
                rotate_left
                ·intro w'
                 go_simp
                 with_reducible rfl
                rotate_left
                ·simp only [Act.put, List.setIfInBounds_toArray, List.set_cons_zero, List.set_cons_succ, i64_w, i32_w]
                 rfl
                refine pure_ (i := 6) (N := some 105) (v := ?_) (a' := ?_) #[true, true, true, false, false, false, true, false, false, false, false, false, false, false, false, false] rfl rfl (any_of HT_.out (by kernel_rfl)) (fun _ _ _ h => h) (Or.inl ⟨by rfl, ?_⟩) ?_ ?_
                rotate_left
                ·intro w'
                 go_simp
                 with_reducible rfl
                rotate_left
                ·simp only [Act.put, List.setIfInBounds_toArray, List.set_cons_zero, List.set_cons_succ, i64_w, i32_w]
                 rfl
                refine take_ (i := 3) (N := some 102) (v := ?_) (a' := ?_) #[true, true, true, true, false, false, true, false, false, false, false, false, false, false, false, false] rfl rfl (take_ofW HT_.out HW_.out (by kernel_rfl)) (fun _ _ _ h => h) (Or.inl ⟨by rfl, ?_⟩) hHeld ?_ ?_
                rotate_left
                ·rintro w' ⟨s0, s1, s2, s3, s4, s5, s6, s7, s8, s9, s10, s11⟩
                 go_simp
                 with_reducible rfl
                rotate_left
                ·simp only [Act.put, List.setIfInBounds_toArray, List.set_cons_zero, List.set_cons_succ, i64_w, i32_w]
                 rfl
                refine take_ (i := 7) (N := some 106) (v := ?_) (a' := ?_) #[true, true, true, true, false, false, true, true, false, false, false, false, false, false, false, false] rfl rfl (take_ofW HT_.out HW_.out (by kernel_rfl)) (fun _ _ _ h => h) (Or.inl ⟨by rfl, ?_⟩) hHeld ?_ ?_
                rotate_left
                ·rintro w' ⟨s0, s1, s2, s3, s4, s5, s6, s7, s8, s9, s10, s11⟩
                 go_simp
                 with_reducible rfl
                rotate_left
                ·simp only [Act.put, List.setIfInBounds_toArray, List.set_cons_zero, List.set_cons_succ, i64_w, i32_w]
                 rfl
                refine pure_ (i := 8) (N := some 107) (v := ?_) (a' := ?_) #[true, true, true, true, false, false, true, true, true, false, false, false, false, false, false, false] rfl rfl (any_of HT_.out (by kernel_rfl)) (fun _ _ _ h => h) (Or.inl ⟨by rfl, ?_⟩) ?_ ?_
                rotate_left
                ·intro w'
                 go_simp
                 with_reducible rfl
                rotate_left
                ·simp only [Act.put, List.setIfInBounds_toArray, List.set_cons_zero, List.set_cons_succ, i64_w, i32_w]
                 rfl
                refine pure_ (i := 9) (N := some 108) (v := ?_) (a' := ?_) #[true, true, true, true, false, false, true, true, true, true, false, false, false, false, false, false] rfl rfl (any_of HT_.out (by kernel_rfl)) (fun _ _ _ h => h) (Or.inl ⟨by rfl, ?_⟩) ?_ ?_
                rotate_left
                ·intro w'
                 go_simp
                 with_reducible rfl
                rotate_left
                ·simp only [Act.put, List.setIfInBounds_toArray, List.set_cons_zero, List.set_cons_succ, i64_w, i32_w]
                 rfl
                refine one_ (i := 4) (N := some 103) #[true, true, true, true, true, false, true, true, true, true, false, false, false, false, false, false] rfl rfl (one_of HT_.out (by kernel_rfl)) (by decide) (fun K hK => ?_)
                refine goes_ Tryd.func18 (by kernel_rfl) rfl #[.agg #[.string t131, .slice Ao83 t132.length co83, .slice Ao84 t135.length co84, .slice Ao85 t138.length co85, .slice Ao89 y148.length co89, .slice Ao87 t144.length co87]] (by rfl) rfl rfl tm ?_
                with_reducible refine (valid_Check.calls kj40 t131 _ _ t132 _ _ t135 _ _ t138 _ _ y148 _ _ t144 t151 _ ?side11 ?side1 ?side2 ?side3 ?side4 ?side5 ?side6 ?side7 ?side8 ?side9 ?side10 A73.out).mono ?_
                (case side1 => exact tr HO134.out)
                (case side2 => exact rl HO134.out)
                (case side3 => exact tr HO137.out)
                (case side4 => exact rl HO137.out)
                (case side5 => exact tr HO140.out)
                (case side6 => exact rl HO140.out)
                (case side7 => exact tr HO150.out)
                (case side8 => exact rl HO150.out)
                (case side9 => exact tr HO146.out)
                (case side10 => exact rl HO146.out)
                (case side11 => first | exact HG.out | exact Glob.below HG.out (tg3 HB.out GE101.out GE121.out GE147.out))
                rintro e w93 ⟨rfl, hb⟩
                refine ⟨_, rfl, ?_⟩
                replace HO_122001 := ra HO_122001.out hb
                replace HO_122002 := ra HO_122002.out hb
                replace HO_122003 := ra HO_122003.out hb
                replace HO_122004 := ra HO_122004.out hb
                replace HO_122005 := ra HO_122005.out hb
                replace HO134 := ra HO134.out hb
                replace HO137 := ra HO137.out hb
                replace HO140 := ra HO140.out hb
                replace HO146 := ra HO146.out hb
                replace HO150 := ra HO150.out hb
                replace BK101 := ba BK101.out hb
                replace BK121 := ba BK121.out hb
                replace BK147 := ba BK147.out hb
                replace HB := Aside0.mk (below_step (tg3 HB.out GE101.out GE121.out GE147.out) hb)
                (try clear hb)
                (try clear hb2)
                (try clear hk)
                (try clear hi)
                refine hK.out _ _ ⟨(blk_cell BK147.out 0).trans rfl, (blk_cell BK147.out 1).trans rfl, (blk_cell BK147.out 2).trans rfl, (blk_cell BK147.out 3).trans rfl, (blk_cell BK147.out 4).trans rfl, (blk_cell BK147.out 5).trans rfl, (blk_cell BK101.out 0).trans rfl, (blk_cell BK101.out 1).trans rfl, (blk_cell BK101.out 2).trans rfl, (blk_cell BK101.out 3).trans rfl, (blk_cell BK101.out 4).trans rfl, (blk_cell BK101.out 5).trans rfl⟩ (fun hHeld => ?_)
                clear hK K
                refine norm_ (a' := ?_) ?_ ?_
                rotate_left
                ·show Act.put _ (some 103) _ = _
                 simp only [Act.put, List.setIfInBounds_toArray, List.set_cons_zero, List.set_cons_succ, i64_w, i32_w]
                 rfl
                refine pure_ (i := 5) (N := some 104) (v := ?_) (a' := ?_) #[true, true, true, true, true, true, true, true, true, true, false, false, false, false, false, false] rfl rfl (any_of HT_.out (by kernel_rfl)) (fun _ _ _ h => h) (Or.inl ⟨by rfl, ?_⟩) ?_ ?_
                rotate_left
                ·intro w'
                 go_simp
                 with_reducible rfl
                rotate_left
                ·simp only [Act.put, List.setIfInBounds_toArray, List.set_cons_zero, List.set_cons_succ, i64_w, i32_w]
                 rfl
                refine pure_ (i := 10) (N := some 109) (v := ?_) (a' := ?_) #[true, true, true, true, true, true, true, true, true, true, true, false, false, false, false, false] rfl rfl (any_of HT_.out (by kernel_rfl)) (fun _ _ _ h => h) (Or.inl ⟨by rfl, ?_⟩) ?_ ?_
                rotate_left
                ·intro w'
                 go_simp
                 with_reducible rfl
                rotate_left
                ·simp only [Act.put, List.setIfInBounds_toArray, List.set_cons_zero, List.set_cons_succ, i64_w, i32_w]
                 rfl
                refine pure_ (i := 11) (N := some 110) (v := ?_) (a' := ?_) #[true, true, true, true, true, true, true, true, true, true, true, true, false, false, false, false] rfl rfl (any_of HT_.out (by kernel_rfl)) (fun _ _ _ h => h) (Or.inl ⟨by rfl, ?_⟩) ?_ ?_
                rotate_left
                ·intro w'
                 go_simp
                 with_reducible rfl
                rotate_left
                ·simp only [Act.put, List.setIfInBounds_toArray, List.set_cons_zero, List.set_cons_succ, i64_w, i32_w]
                 rfl
                refine pure_ (i := 12) (N := some 111) (v := ?_) (a' := ?_) #[true, true, true, true, true, true, true, true, true, true, true, true, true, false, false, false] rfl rfl (any_of HT_.out (by kernel_rfl)) (fun _ _ _ h => h) (Or.inl ⟨by rfl, ?_⟩) ?_ ?_
                rotate_left
                ·intro w'
                 go_simp
                 with_reducible rfl
                rotate_left
                ·simp only [Act.put, List.setIfInBounds_toArray, List.set_cons_zero, List.set_cons_succ, i64_w, i32_w]
                 rfl
                refine one_ (i := 13) (N := some 112) #[true, true, true, true, true, true, true, true, true, true, true, true, true, true, false, false] rfl rfl (one_of HT_.out (by kernel_rfl)) (by decide) (fun K hK => ?_)
                refine goes_ Tryd.func14 (by kernel_rfl) rfl #[] (by rfl) rfl rfl tm ?_
                with_reducible refine (budwoodlaw11_awake.calls kj40  t152 _ ?side1 A75.out).mono ?_
                (case side1 => first | exact HG.out | exact Glob.below HG.out (tg3 HB.out GE101.out GE121.out GE147.out))
                rintro e w94 ⟨rfl, hb⟩
                refine ⟨_, rfl, ?_⟩
                replace HO_122001 := ra HO_122001.out hb
                replace HO_122002 := ra HO_122002.out hb
                replace HO_122003 := ra HO_122003.out hb
                replace HO_122004 := ra HO_122004.out hb
                replace HO_122005 := ra HO_122005.out hb
                replace HO134 := ra HO134.out hb
                replace HO137 := ra HO137.out hb
                replace HO140 := ra HO140.out hb
                replace HO146 := ra HO146.out hb
                replace HO150 := ra HO150.out hb
                replace BK101 := ba BK101.out hb
                replace BK121 := ba BK121.out hb
                replace BK147 := ba BK147.out hb
                replace HB := Aside0.mk (below_step (tg3 HB.out GE101.out GE121.out GE147.out) hb)
                (try clear hb)
                (try clear hb2)
                (try clear hk)
                (try clear hi)
                refine hK.out _ _ ⟨(blk_cell BK147.out 0).trans rfl, (blk_cell BK147.out 1).trans rfl, (blk_cell BK147.out 2).trans rfl, (blk_cell BK147.out 3).trans rfl, (blk_cell BK147.out 4).trans rfl, (blk_cell BK147.out 5).trans rfl, (blk_cell BK101.out 0).trans rfl, (blk_cell BK101.out 1).trans rfl, (blk_cell BK101.out 2).trans rfl, (blk_cell BK101.out 3).trans rfl, (blk_cell BK101.out 4).trans rfl, (blk_cell BK101.out 5).trans rfl⟩ (fun hHeld => ?_)
                clear hK K
                refine norm_ (a' := ?_) ?_ ?_
                rotate_left
                ·show Act.put _ (some 112) _ = _
                 simp only [Act.put, List.setIfInBounds_toArray, List.set_cons_zero, List.set_cons_succ, i64_w, i32_w]
                 rfl
                refine pure_ (i := 14) (N := some 113) (v := ?_) (a' := ?_) #[true, true, true, true, true, true, true, true, true, true, true, true, true, true, true, false] rfl rfl (any_of HT_.out (by kernel_rfl)) (fun _ _ _ h => h) (Or.inl ⟨by rfl, ?_⟩) ?_ ?_
                rotate_left
                ·intro w'
                 go_simp
                 with_reducible rfl
                rotate_left
                ·simp only [Act.put, List.setIfInBounds_toArray, List.set_cons_zero, List.set_cons_succ, i64_w, i32_w]
                 rfl
                refine pure_ (i := 15) (N := some 4) (v := ?_) (a' := ?_) #[true, true, true, true, true, true, true, true, true, true, true, true, true, true, true, true] rfl rfl (any_of HT_.out (by kernel_rfl)) (fun _ _ _ h => h) (Or.inl ⟨by rfl, ?_⟩) ?_ ?_
                rotate_left
                ·intro w'
                 go_simp
                 with_reducible rfl
                rotate_left
                ·simp only [Act.put, List.setIfInBounds_toArray, List.set_cons_zero, List.set_cons_succ, i64_w, i32_w]
                 rfl
                refine done_ (done_of HT_.out (by kernel_rfl)) ?_
                try go_wp2
                go_ret
                exact ⟨by first | rfl | (simp [errW_none, errW_some] <;> rfl) | (simp [*, errW_none, errW_some] <;> rfl), tg3 HB.out GE101.out GE121.out GE147.out⟩
               ·rw [if_neg c74] at H
                have c74b0 : ((t151 == 0) == (decide ((l0_4.length : Int) < 128))) = false := by simpa using c74
                (try (have c74b1 : decide ((t151 == 0) = (decide ((l0_4.length : Int) < 128))) = false := by simpa using c74))
                (try (have c74b2 : ((t151 == 0) == (decide ((l0_4.length : Int) < 128))) = false := by simpa using c74))
                (try (have c74b3 : ¬ ((t151 == 0) = (decide ((l0_4.length : Int) < 128))) := by simpa using c74))
                clear c74
                obtain rfl := Option.some.inj H
                have hnb95 := NB101_121.out
                have hnc95 := NB121_101.out
                have hcz96_0 := cz BK101.out 0 (.string a0_0)
                have hcz96_1 := cz BK101.out 1 (.slice A0_1 l0_1.length c0_1)
                have hcz96_2 := cz BK101.out 2 (.slice A0_2 l0_2.length c0_2)
                have hcz96_3 := cz BK101.out 3 (.slice A0_3 l0_3.length c0_3)
                have hcz96_4 := cz BK101.out 4 (.slice A0_4 l0_4.length c0_4)
                have hcz96_5 := cz BK101.out 5 (.slice A0_5 l0_5.length c0_5)
                have hfz96_0 := blk_frozen BK101.out 0
                have hfz96_1 := blk_frozen BK101.out 1
                have hfz96_2 := blk_frozen BK101.out 2
                have hfz96_3 := blk_frozen BK101.out 3
                have hfz96_4 := blk_frozen BK101.out 4
                have hfz96_5 := blk_frozen BK101.out 5
                try go_wp2_with (first | ((with_reducible refine gate_callee (f := 15) rfl ?_); refine goesL_ (some 93) rfl rfl Tryd.func15 (by kernel_rfl) rfl #[.agg #[.string a0_0, .slice A0_1 l0_1.length c0_1, .slice A0_2 l0_2.length c0_2, .slice A0_3 l0_3.length c0_3, .slice A0_4 l0_4.length c0_4, .slice A0_5 l0_5.length c0_5]] rfl tm ?_; (with_reducible refine (budwoodref10_Copy.calls a0_0 _ _ l0_1 _ _ l0_2 _ _ l0_3 _ _ l0_4 _ _ l0_5 t131 t132 t135 t138 t141 t144 _ ?side1 ?side2 ?side3 ?side4 ?side5 ?side6 ?side7 ?side8 ?side9 ?side10 A70.out).mono ?_); (case side1 => exact tc (Kd.C_below HR0_1.out HB.out)); (case side2 => exact HC0_1.out); (case side3 => exact tc (Kd.C_below HR0_2.out HB.out)); (case side4 => exact HC0_2.out); (case side5 => exact tc (Kd.C_below HR0_3.out HB.out)); (case side6 => exact HC0_3.out); (case side7 => exact tc (Kd.C_below HR0_4.out HB.out)); (case side8 => exact HC0_4.out); (case side9 => exact tc (Kd.C_below HR0_5.out HB.out)); (case side10 => exact HC0_5.out); rintro e w97 ⟨v133, v136, v139, v142, v145, rfl, ho0, ho1, ho2, ho3, ho4, hb⟩; refine ⟨_, rfl, ?_⟩; have n0_ := Aside0.mk (Kd.R_mono (Kd.R_told (Kd.R_told (Kd.R_old (tk HO_122001.out) hb) (Kd.R_base ho0)) (Kd.R_base ho1)) (fun _ h_ => h_.1)); have n1_ := Aside0.mk (Kd.R_mono (Kd.R_told (Kd.R_told (Kd.R_old (tk HO_122002.out) hb) (Kd.R_base ho0)) (Kd.R_base ho1)) (fun _ h_ => h_.1)); have n2_ := Aside0.mk (Kd.R_mono (Kd.R_told (Kd.R_told (Kd.R_old (tk HO_122003.out) hb) (Kd.R_base ho2)) (Kd.R_base ho3)) (fun _ h_ => h_.1)); have n3_ := Aside0.mk (Kd.R_mono (Kd.R_told (Kd.R_told (Kd.R_old (tk HO_122004.out) hb) (Kd.R_base ho2)) (Kd.R_base ho3)) (fun _ h_ => h_.1)); have n4_ := Aside0.mk (Kd.R_elder' (tk HO_122005.out) (Kd.R_base ho4) hb); have n5_ := Aside0.mk (Kd.R_lower (Kd.R_new' (Kd.R_new' ho0 (Kd.R_lt (tk HO_122001.out))) (Kd.R_lt (tk HO_122002.out))) (below_size (tg2 HB.out GE101.out GE121.out))); have n6_ := Aside0.mk (Kd.R_lower (Kd.R_new' (Kd.R_new' ho1 (Kd.R_lt (tk HO_122001.out))) (Kd.R_lt (tk HO_122002.out))) (below_size (tg2 HB.out GE101.out GE121.out))); have n7_ := Aside0.mk (Kd.R_lower (Kd.R_new' (Kd.R_new' ho2 (Kd.R_lt (tk HO_122003.out))) (Kd.R_lt (tk HO_122004.out))) (below_size (tg2 HB.out GE101.out GE121.out))); have n8_ := Aside0.mk (Kd.R_lower (Kd.R_new' (Kd.R_new' ho3 (Kd.R_lt (tk HO_122003.out))) (Kd.R_lt (tk HO_122004.out))) (below_size (tg2 HB.out GE101.out GE121.out))); have n9_ := Aside0.mk (Kd.R_lower (Kd.R_new' ho4 (Kd.R_lt (tk HO_122005.out))) (below_size (tg2 HB.out GE101.out GE121.out))); have n10_ := ba BK101.out hb; have n11_ := ba BK121.out hb; have n12_ := Aside0.mk (below_step (tg2 HB.out GE101.out GE121.out) hb); clear HO_122001; clear HO_122002; clear HO_122003; clear HO_122004; clear HO_122005; clear BK101; clear BK121; clear HB; have HO_122001 := n0_; have HO_122002 := n1_; have HO_122003 := n2_; have HO_122004 := n3_; have HO_122005 := n4_; have HO134 := n5_; have HO137 := n6_; have HO140 := n7_; have HO143 := n8_; have HO146 := n9_; have BK101 := n10_; have BK121 := n11_; have HB := n12_; clear n0_ n1_ n2_ n3_ n4_ n5_ n6_ n7_ n8_ n9_ n10_ n11_ n12_; (try clear hb); (try clear hb2); (try clear hk); (try clear hi); (try clear ho0); (try clear ho1); (try clear ho2); (try clear ho3); (try clear ho4)) | ((with_reducible refine gate_dst (N := 10) rfl ?_); (try (refine gate_guard (by rfl) ?_; dsimp only)); refine box_event ?hg (N := 10) ?hd (cs := #[.string (⟨#[]⟩ : ByteArray), .slice none 0 0, .slice none 0 0, .slice none 0 0, .slice none 0 0, .slice none 0 0]) (t := 26) ?hr ?_; (case hd => rfl); (case hg => rfl); (case hr => first | (go_simp; done) | (go_simp; rfl)); intro gb147 hg w98 hbox hb; have n0_ := ra HO_122001.out hb; have n1_ := ra HO_122002.out hb; have n2_ := ra HO_122003.out hb; have n3_ := ra HO_122004.out hb; have n4_ := ra HO_122005.out hb; have n5_ := ra HO134.out hb; have n6_ := ra HO137.out hb; have n7_ := ra HO140.out hb; have n8_ := ra HO143.out hb; have n9_ := ra HO146.out hb; have n10_ := ba BK101.out hb; have n11_ := ba BK121.out hb; have n12_ := Aside0.mk (below_step (tg2 HB.out GE101.out GE121.out) hb); have n13_ := Aside0.mk (hbox); have n14_ := Aside0.mk ((by rw [hg]; exact (below_size (tg2 HB.out GE101.out GE121.out)) : w.heap.size ≤ gb147)); have n15_ := Aside0.mk ((by rw [hg]; exact (below_size (tg2 HB.out GE101.out GE121.out)) : w.heap.size ≤ gb147)); have n16_ := Aside0.mk ((by rw [hg]; exact Nat.ne_of_lt (blk_lt (g := gb101) (o := .cells #[.string a0_0, .slice A0_1 l0_1.length c0_1, .slice A0_2 l0_2.length c0_2, .slice A0_3 l0_3.length c0_3, .slice A0_4 l0_4.length c0_4, .slice A0_5 l0_5.length c0_5] 26 (0, 0)) (tb BK101.out)) : gb101 ≠ gb147)); have n17_ := Aside0.mk ((by rw [hg]; exact Nat.ne_of_gt (blk_lt (g := gb101) (o := .cells #[.string a0_0, .slice A0_1 l0_1.length c0_1, .slice A0_2 l0_2.length c0_2, .slice A0_3 l0_3.length c0_3, .slice A0_4 l0_4.length c0_4, .slice A0_5 l0_5.length c0_5] 26 (0, 0)) (tb BK101.out)) : gb147 ≠ gb101)); have n18_ := Aside0.mk ((by rw [hg]; exact Nat.ne_of_lt (blk_lt (g := gb121) (o := .cells #[.string t105, .slice Ao25 t106.length co25, .slice Ao31 y122.length co31, .slice Ao27 t112.length co27, .slice Ao28 t115.length co28, .slice Ao29 t118.length co29] 26 (0, 0)) (tb BK121.out)) : gb121 ≠ gb147)); have n19_ := Aside0.mk ((by rw [hg]; exact Nat.ne_of_gt (blk_lt (g := gb121) (o := .cells #[.string t105, .slice Ao25 t106.length co25, .slice Ao31 y122.length co31, .slice Ao27 t112.length co27, .slice Ao28 t115.length co28, .slice Ao29 t118.length co29] 26 (0, 0)) (tb BK121.out)) : gb147 ≠ gb121)); clear HO_122001; clear HO_122002; clear HO_122003; clear HO_122004; clear HO_122005; clear HO134; clear HO137; clear HO140; clear HO143; clear HO146; clear BK101; clear BK121; clear HB; have HO_122001 := n0_; have HO_122002 := n1_; have HO_122003 := n2_; have HO_122004 := n3_; have HO_122005 := n4_; have HO134 := n5_; have HO137 := n6_; have HO140 := n7_; have HO143 := n8_; have HO146 := n9_; have BK101 := n10_; have BK121 := n11_; have HB := n12_; have BK147 := n13_; have GW147 := n14_; have GE147 := n15_; have NB101_147 := n16_; have NB147_101 := n17_; have NB121_147 := n18_; have NB147_121 := n19_; clear n0_ n1_ n2_ n3_ n4_ n5_ n6_ n7_ n8_ n9_ n10_ n11_ n12_ n13_ n14_ n15_ n16_ n17_ n18_ n19_; clear hb hbox hg; have hnb99 := NB147_101.out; have hnc99 := NB101_147.out; have hnb100 := NB147_121.out; have hnc100 := NB121_147.out; have hcz101_0 := cz BK147.out 0 (.string (⟨#[]⟩ : ByteArray)); have hcz101_1 := cz BK147.out 1 (.slice none 0 0); have hcz101_2 := cz BK147.out 2 (.slice none 0 0); have hcz101_3 := cz BK147.out 3 (.slice none 0 0); have hcz101_4 := cz BK147.out 4 (.slice none 0 0); have hcz101_5 := cz BK147.out 5 (.slice none 0 0); have hfz101_0 := blk_frozen BK147.out 0; have hfz101_1 := blk_frozen BK147.out 1; have hfz101_2 := blk_frozen BK147.out 2; have hfz101_3 := blk_frozen BK147.out 3; have hfz101_4 := blk_frozen BK147.out 4; have hfz101_5 := blk_frozen BK147.out 5; obtain ⟨Ao102, co102, eo102⟩ := Kd.R_slice HO134.out; subst eo102; obtain ⟨Ao103, co103, eo103⟩ := Kd.R_slice HO137.out; subst eo103; obtain ⟨Ao104, co104, eo104⟩ := Kd.R_slice HO140.out; subst eo104; obtain ⟨Ao105, co105, eo105⟩ := Kd.R_slice HO143.out; subst eo105; obtain ⟨Ao106, co106, eo106⟩ := Kd.R_slice HO146.out; subst eo106) | ((with_reducible refine gate_builtin (b := .append) (xs := #[.tmp 95, .tmp 96]) rfl ?_); (try (refine gate_guard (by rfl) ?_; dsimp only)); at_builtin; refine Kd.R_append (Kd.int .u32) (w0 := w) w.heap.size rfl (.tmp 95) (.tmp 96) 23 44 (.int .u32 0) 4 rfl Tryd.underlying23 info44 rfl (by decide) (by omega) (.slice Ao105 t141.length co105) t141 7 [.int .u32 7] (fun k_ => some k_ ≠ (.slice Ao27 t112.length co27 : Value).ownBlock ∧ some k_ ≠ (.slice Ao28 t115.length co28 : Value).ownBlock ∧ some k_ ≠ (.slice Ao104 t138.length co104 : Value).ownBlock) (fun _ => False) rfl (by first | (go_simp; done) | (go_simp; rfl)) ?aP (fun _ hk => hk.elim) ?aF ?aO ?aB ?aS ?aL ?_; (case aP => exact rfl); (case aB => exact (tg3 HB.out GE101.out GE121.out GE147.out)); (case aF => exact (fun k_ hk => ⟨Kd.fresh' (Kd.R_lt (by (with_reducible repeat (first | apply Kd.R_alloc | apply Kd.R_drewN | apply Kd.R_drew)); exact (Kd.R_mono (Kd.R_far (p := ⟨gb147, 5, none⟩) (Kd.R_far (p := ⟨gb147, 4, none⟩) (Kd.R_far (p := ⟨gb147, 3, none⟩) (Kd.R_far (p := ⟨gb147, 2, none⟩) (Kd.R_far (p := ⟨gb147, 1, none⟩) (Kd.R_far (p := ⟨gb147, 0, none⟩) (Kd.R_types HO_122003.out BK147.out (by decide)) (fun _ hk => hk.2) (.string t131)) (fun _ hk => hk.2) (.slice Ao102 t132.length co102)) (fun _ hk => hk.2) (.slice Ao103 t135.length co103)) (fun _ hk => hk.2) (.slice Ao104 t138.length co104)) (fun _ hk => hk.2) (.slice Ao105 t141.length co105)) (fun _ hk => hk.2) (.slice Ao106 t144.length co106)) (fun _ h_ => h_.1)))) k_ hk, Kd.fresh' (Kd.R_lt (by (with_reducible repeat (first | apply Kd.R_alloc | apply Kd.R_drewN | apply Kd.R_drew)); exact (Kd.R_mono (Kd.R_far (p := ⟨gb147, 5, none⟩) (Kd.R_far (p := ⟨gb147, 4, none⟩) (Kd.R_far (p := ⟨gb147, 3, none⟩) (Kd.R_far (p := ⟨gb147, 2, none⟩) (Kd.R_far (p := ⟨gb147, 1, none⟩) (Kd.R_far (p := ⟨gb147, 0, none⟩) (Kd.R_types HO_122004.out BK147.out (by decide)) (fun _ hk => hk.2) (.string t131)) (fun _ hk => hk.2) (.slice Ao102 t132.length co102)) (fun _ hk => hk.2) (.slice Ao103 t135.length co103)) (fun _ hk => hk.2) (.slice Ao104 t138.length co104)) (fun _ hk => hk.2) (.slice Ao105 t141.length co105)) (fun _ hk => hk.2) (.slice Ao106 t144.length co106)) (fun _ h_ => h_.1)))) k_ hk, Kd.fresh' (Kd.R_lt (by (with_reducible repeat (first | apply Kd.R_alloc | apply Kd.R_drewN | apply Kd.R_drew)); exact (Kd.R_mono (Kd.R_far (p := ⟨gb147, 5, none⟩) (Kd.R_far (p := ⟨gb147, 4, none⟩) (Kd.R_far (p := ⟨gb147, 3, none⟩) (Kd.R_far (p := ⟨gb147, 2, none⟩) (Kd.R_far (p := ⟨gb147, 1, none⟩) (Kd.R_far (p := ⟨gb147, 0, none⟩) (Kd.R_types HO140.out BK147.out (by decide)) (fun _ hk => hk.2) (.string t131)) (fun _ hk => hk.2) (.slice Ao102 t132.length co102)) (fun _ hk => hk.2) (.slice Ao103 t135.length co103)) (fun _ hk => hk.2) (.slice Ao104 t138.length co104)) (fun _ hk => hk.2) (.slice Ao105 t141.length co105)) (fun _ hk => hk.2) (.slice Ao106 t144.length co106)) (fun _ h_ => h_.1)))) k_ hk⟩)); (case aO => exact (by (with_reducible repeat (first | apply Kd.R_alloc | apply Kd.R_drewN | apply Kd.R_drew)); exact Kd.R_mono (Kd.R_far (p := ⟨gb147, 5, none⟩) (Kd.R_far (p := ⟨gb147, 4, none⟩) (Kd.R_far (p := ⟨gb147, 3, none⟩) (Kd.R_far (p := ⟨gb147, 2, none⟩) (Kd.R_far (p := ⟨gb147, 1, none⟩) (Kd.R_far (p := ⟨gb147, 0, none⟩) (Kd.R_types HO143.out BK147.out (by decide)) (fun _ hk => hk.2) (.string t131)) (fun _ hk => hk.2) (.slice Ao102 t132.length co102)) (fun _ hk => hk.2) (.slice Ao103 t135.length co103)) (fun _ hk => hk.2) (.slice Ao104 t138.length co104)) (fun _ hk => hk.2) (.slice Ao105 t141.length co105)) (fun _ hk => hk.2) (.slice Ao106 t144.length co106)) (fun _ hk => ⟨hk.1.1.2, ⟨hk.1.2, hk.1.1.1⟩⟩))); (case aS => exact (below_size (tg3 HB.out GE101.out GE121.out GE147.out))); (case aL => have := LMc71.out; omega); intro v149 w107 ho hb hg hat; rw [← Ny148.out] at ho; have n0_ := Aside0.mk (Kd.R_over' (by (with_reducible repeat (first | apply Kd.R_alloc | apply Kd.R_drewN | apply Kd.R_drew)); exact (Kd.R_mono (Kd.R_far (p := ⟨gb147, 5, none⟩) (Kd.R_far (p := ⟨gb147, 4, none⟩) (Kd.R_far (p := ⟨gb147, 3, none⟩) (Kd.R_far (p := ⟨gb147, 2, none⟩) (Kd.R_far (p := ⟨gb147, 1, none⟩) (Kd.R_far (p := ⟨gb147, 0, none⟩) (Kd.R_types HO_122001.out BK147.out (by decide)) (fun _ hk => hk.2) (.string t131)) (fun _ hk => hk.2) (.slice Ao102 t132.length co102)) (fun _ hk => hk.2) (.slice Ao103 t135.length co103)) (fun _ hk => hk.2) (.slice Ao104 t138.length co104)) (fun _ hk => hk.2) (.slice Ao105 t141.length co105)) (fun _ hk => hk.2) (.slice Ao106 t144.length co106)) (fun _ h_ => h_.1))) (Kd.R_typed (by (with_reducible repeat (first | apply Kd.R_alloc | apply Kd.R_drewN | apply Kd.R_drew)); exact (Kd.R_mono (Kd.R_far (p := ⟨gb147, 5, none⟩) (Kd.R_far (p := ⟨gb147, 4, none⟩) (Kd.R_far (p := ⟨gb147, 3, none⟩) (Kd.R_far (p := ⟨gb147, 2, none⟩) (Kd.R_far (p := ⟨gb147, 1, none⟩) (Kd.R_far (p := ⟨gb147, 0, none⟩) (Kd.R_types HO143.out BK147.out (by decide)) (fun _ hk => hk.2) (.string t131)) (fun _ hk => hk.2) (.slice Ao102 t132.length co102)) (fun _ hk => hk.2) (.slice Ao103 t135.length co103)) (fun _ hk => hk.2) (.slice Ao104 t138.length co104)) (fun _ hk => hk.2) (.slice Ao105 t141.length co105)) (fun _ hk => hk.2) (.slice Ao106 t144.length co106)) (fun _ h_ => h_.1)))) (by decide) hg); have n1_ := Aside0.mk (Kd.R_over' (by (with_reducible repeat (first | apply Kd.R_alloc | apply Kd.R_drewN | apply Kd.R_drew)); exact (Kd.R_mono (Kd.R_far (p := ⟨gb147, 5, none⟩) (Kd.R_far (p := ⟨gb147, 4, none⟩) (Kd.R_far (p := ⟨gb147, 3, none⟩) (Kd.R_far (p := ⟨gb147, 2, none⟩) (Kd.R_far (p := ⟨gb147, 1, none⟩) (Kd.R_far (p := ⟨gb147, 0, none⟩) (Kd.R_types HO_122002.out BK147.out (by decide)) (fun _ hk => hk.2) (.string t131)) (fun _ hk => hk.2) (.slice Ao102 t132.length co102)) (fun _ hk => hk.2) (.slice Ao103 t135.length co103)) (fun _ hk => hk.2) (.slice Ao104 t138.length co104)) (fun _ hk => hk.2) (.slice Ao105 t141.length co105)) (fun _ hk => hk.2) (.slice Ao106 t144.length co106)) (fun _ h_ => h_.1))) (Kd.R_typed (by (with_reducible repeat (first | apply Kd.R_alloc | apply Kd.R_drewN | apply Kd.R_drew)); exact (Kd.R_mono (Kd.R_far (p := ⟨gb147, 5, none⟩) (Kd.R_far (p := ⟨gb147, 4, none⟩) (Kd.R_far (p := ⟨gb147, 3, none⟩) (Kd.R_far (p := ⟨gb147, 2, none⟩) (Kd.R_far (p := ⟨gb147, 1, none⟩) (Kd.R_far (p := ⟨gb147, 0, none⟩) (Kd.R_types HO143.out BK147.out (by decide)) (fun _ hk => hk.2) (.string t131)) (fun _ hk => hk.2) (.slice Ao102 t132.length co102)) (fun _ hk => hk.2) (.slice Ao103 t135.length co103)) (fun _ hk => hk.2) (.slice Ao104 t138.length co104)) (fun _ hk => hk.2) (.slice Ao105 t141.length co105)) (fun _ hk => hk.2) (.slice Ao106 t144.length co106)) (fun _ h_ => h_.1)))) (by decide) hg); have n2_ := Aside0.mk (Kd.R_after (ok := (fun k_ => some k_ ≠ (.slice Ao28 t115.length co28 : Value).ownBlock ∧ some k_ ≠ (.slice Ao104 t138.length co104 : Value).ownBlock)) (by (with_reducible repeat (first | apply Kd.R_alloc | apply Kd.R_drewN | apply Kd.R_drew)); exact Kd.R_mono (Kd.R_far (p := ⟨gb147, 5, none⟩) (Kd.R_far (p := ⟨gb147, 4, none⟩) (Kd.R_far (p := ⟨gb147, 3, none⟩) (Kd.R_far (p := ⟨gb147, 2, none⟩) (Kd.R_far (p := ⟨gb147, 1, none⟩) (Kd.R_far (p := ⟨gb147, 0, none⟩) (Kd.R_types HO_122003.out BK147.out (by decide)) (fun _ hk => hk.2) (.string t131)) (fun _ hk => hk.2) (.slice Ao102 t132.length co102)) (fun _ hk => hk.2) (.slice Ao103 t135.length co103)) (fun _ hk => hk.2) (.slice Ao104 t138.length co104)) (fun _ hk => hk.2) (.slice Ao105 t141.length co105)) (fun _ hk => hk.2) (.slice Ao106 t144.length co106)) (fun _ hk => ⟨⟨hk.1.1.1, hk.1.1.2⟩, hk.1.2⟩)) hg hat); have n3_ := Aside0.mk (Kd.R_after (ok := (fun k_ => some k_ ≠ (.slice Ao27 t112.length co27 : Value).ownBlock ∧ some k_ ≠ (.slice Ao104 t138.length co104 : Value).ownBlock)) (by (with_reducible repeat (first | apply Kd.R_alloc | apply Kd.R_drewN | apply Kd.R_drew)); exact Kd.R_mono (Kd.R_far (p := ⟨gb147, 5, none⟩) (Kd.R_far (p := ⟨gb147, 4, none⟩) (Kd.R_far (p := ⟨gb147, 3, none⟩) (Kd.R_far (p := ⟨gb147, 2, none⟩) (Kd.R_far (p := ⟨gb147, 1, none⟩) (Kd.R_far (p := ⟨gb147, 0, none⟩) (Kd.R_types HO_122004.out BK147.out (by decide)) (fun _ hk => hk.2) (.string t131)) (fun _ hk => hk.2) (.slice Ao102 t132.length co102)) (fun _ hk => hk.2) (.slice Ao103 t135.length co103)) (fun _ hk => hk.2) (.slice Ao104 t138.length co104)) (fun _ hk => hk.2) (.slice Ao105 t141.length co105)) (fun _ hk => hk.2) (.slice Ao106 t144.length co106)) (fun _ hk => ⟨⟨hk.1.1.1, hk.1.1.2⟩, hk.1.2⟩)) hg hat); have n4_ := Aside0.mk (Kd.R_over' (by (with_reducible repeat (first | apply Kd.R_alloc | apply Kd.R_drewN | apply Kd.R_drew)); exact (Kd.R_mono (Kd.R_far (p := ⟨gb147, 5, none⟩) (Kd.R_far (p := ⟨gb147, 4, none⟩) (Kd.R_far (p := ⟨gb147, 3, none⟩) (Kd.R_far (p := ⟨gb147, 2, none⟩) (Kd.R_far (p := ⟨gb147, 1, none⟩) (Kd.R_far (p := ⟨gb147, 0, none⟩) (Kd.R_types HO_122005.out BK147.out (by decide)) (fun _ hk => hk.2) (.string t131)) (fun _ hk => hk.2) (.slice Ao102 t132.length co102)) (fun _ hk => hk.2) (.slice Ao103 t135.length co103)) (fun _ hk => hk.2) (.slice Ao104 t138.length co104)) (fun _ hk => hk.2) (.slice Ao105 t141.length co105)) (fun _ hk => hk.2) (.slice Ao106 t144.length co106)) (fun _ h_ => h_.1))) (Kd.R_typed (by (with_reducible repeat (first | apply Kd.R_alloc | apply Kd.R_drewN | apply Kd.R_drew)); exact (Kd.R_mono (Kd.R_far (p := ⟨gb147, 5, none⟩) (Kd.R_far (p := ⟨gb147, 4, none⟩) (Kd.R_far (p := ⟨gb147, 3, none⟩) (Kd.R_far (p := ⟨gb147, 2, none⟩) (Kd.R_far (p := ⟨gb147, 1, none⟩) (Kd.R_far (p := ⟨gb147, 0, none⟩) (Kd.R_types HO143.out BK147.out (by decide)) (fun _ hk => hk.2) (.string t131)) (fun _ hk => hk.2) (.slice Ao102 t132.length co102)) (fun _ hk => hk.2) (.slice Ao103 t135.length co103)) (fun _ hk => hk.2) (.slice Ao104 t138.length co104)) (fun _ hk => hk.2) (.slice Ao105 t141.length co105)) (fun _ hk => hk.2) (.slice Ao106 t144.length co106)) (fun _ h_ => h_.1)))) (by decide) hg); have n5_ := Aside0.mk (blk_grown (g := gb101) (o := .cells #[.string a0_0, .slice A0_1 l0_1.length c0_1, .slice A0_2 l0_2.length c0_2, .slice A0_3 l0_3.length c0_3, .slice A0_4 l0_4.length c0_4, .slice A0_5 l0_5.length c0_5] 26 (0, 0)) (by (with_reducible repeat (first | refine blk_drewN ?_ _ | refine blk_drew ?_ | refine blk_alloc ?_ _)); refine blk_far ?_ NB101_147.out _; (with_reducible repeat (first | refine blk_drewN ?_ _ | refine blk_drew ?_ | refine blk_alloc ?_ _)); refine blk_far ?_ NB101_147.out _; (with_reducible repeat (first | refine blk_drewN ?_ _ | refine blk_drew ?_ | refine blk_alloc ?_ _)); refine blk_far ?_ NB101_147.out _; (with_reducible repeat (first | refine blk_drewN ?_ _ | refine blk_drew ?_ | refine blk_alloc ?_ _)); refine blk_far ?_ NB101_147.out _; (with_reducible repeat (first | refine blk_drewN ?_ _ | refine blk_drew ?_ | refine blk_alloc ?_ _)); refine blk_far ?_ NB101_147.out _; (with_reducible repeat (first | refine blk_drewN ?_ _ | refine blk_drew ?_ | refine blk_alloc ?_ _)); refine blk_far ?_ NB101_147.out _; (with_reducible repeat (first | refine blk_drewN ?_ _ | refine blk_drew ?_ | refine blk_alloc ?_ _)); exact BK101.out) hg (Kd.R_ne HO143.out BK101.out (by decide))); have n6_ := Aside0.mk (blk_grown (g := gb121) (o := .cells #[.string t105, .slice Ao25 t106.length co25, .slice Ao31 y122.length co31, .slice Ao27 t112.length co27, .slice Ao28 t115.length co28, .slice Ao29 t118.length co29] 26 (0, 0)) (by (with_reducible repeat (first | refine blk_drewN ?_ _ | refine blk_drew ?_ | refine blk_alloc ?_ _)); refine blk_far ?_ NB121_147.out _; (with_reducible repeat (first | refine blk_drewN ?_ _ | refine blk_drew ?_ | refine blk_alloc ?_ _)); refine blk_far ?_ NB121_147.out _; (with_reducible repeat (first | refine blk_drewN ?_ _ | refine blk_drew ?_ | refine blk_alloc ?_ _)); refine blk_far ?_ NB121_147.out _; (with_reducible repeat (first | refine blk_drewN ?_ _ | refine blk_drew ?_ | refine blk_alloc ?_ _)); refine blk_far ?_ NB121_147.out _; (with_reducible repeat (first | refine blk_drewN ?_ _ | refine blk_drew ?_ | refine blk_alloc ?_ _)); refine blk_far ?_ NB121_147.out _; (with_reducible repeat (first | refine blk_drewN ?_ _ | refine blk_drew ?_ | refine blk_alloc ?_ _)); refine blk_far ?_ NB121_147.out _; (with_reducible repeat (first | refine blk_drewN ?_ _ | refine blk_drew ?_ | refine blk_alloc ?_ _)); exact BK121.out) hg (Kd.R_ne HO143.out BK121.out (by decide))); have n7_ := Aside0.mk (Kd.R_over' (by (with_reducible repeat (first | apply Kd.R_alloc | apply Kd.R_drewN | apply Kd.R_drew)); exact (Kd.R_mono (Kd.R_far (p := ⟨gb147, 5, none⟩) (Kd.R_far (p := ⟨gb147, 4, none⟩) (Kd.R_far (p := ⟨gb147, 3, none⟩) (Kd.R_far (p := ⟨gb147, 2, none⟩) (Kd.R_far (p := ⟨gb147, 1, none⟩) (Kd.R_far (p := ⟨gb147, 0, none⟩) (Kd.R_types HO134.out BK147.out (by decide)) (fun _ hk => hk.2) (.string t131)) (fun _ hk => hk.2) (.slice Ao102 t132.length co102)) (fun _ hk => hk.2) (.slice Ao103 t135.length co103)) (fun _ hk => hk.2) (.slice Ao104 t138.length co104)) (fun _ hk => hk.2) (.slice Ao105 t141.length co105)) (fun _ hk => hk.2) (.slice Ao106 t144.length co106)) (fun _ h_ => h_.1))) (Kd.R_typed (by (with_reducible repeat (first | apply Kd.R_alloc | apply Kd.R_drewN | apply Kd.R_drew)); exact (Kd.R_mono (Kd.R_far (p := ⟨gb147, 5, none⟩) (Kd.R_far (p := ⟨gb147, 4, none⟩) (Kd.R_far (p := ⟨gb147, 3, none⟩) (Kd.R_far (p := ⟨gb147, 2, none⟩) (Kd.R_far (p := ⟨gb147, 1, none⟩) (Kd.R_far (p := ⟨gb147, 0, none⟩) (Kd.R_types HO143.out BK147.out (by decide)) (fun _ hk => hk.2) (.string t131)) (fun _ hk => hk.2) (.slice Ao102 t132.length co102)) (fun _ hk => hk.2) (.slice Ao103 t135.length co103)) (fun _ hk => hk.2) (.slice Ao104 t138.length co104)) (fun _ hk => hk.2) (.slice Ao105 t141.length co105)) (fun _ hk => hk.2) (.slice Ao106 t144.length co106)) (fun _ h_ => h_.1)))) (by decide) hg); have n8_ := Aside0.mk (Kd.R_over' (by (with_reducible repeat (first | apply Kd.R_alloc | apply Kd.R_drewN | apply Kd.R_drew)); exact (Kd.R_mono (Kd.R_far (p := ⟨gb147, 5, none⟩) (Kd.R_far (p := ⟨gb147, 4, none⟩) (Kd.R_far (p := ⟨gb147, 3, none⟩) (Kd.R_far (p := ⟨gb147, 2, none⟩) (Kd.R_far (p := ⟨gb147, 1, none⟩) (Kd.R_far (p := ⟨gb147, 0, none⟩) (Kd.R_types HO137.out BK147.out (by decide)) (fun _ hk => hk.2) (.string t131)) (fun _ hk => hk.2) (.slice Ao102 t132.length co102)) (fun _ hk => hk.2) (.slice Ao103 t135.length co103)) (fun _ hk => hk.2) (.slice Ao104 t138.length co104)) (fun _ hk => hk.2) (.slice Ao105 t141.length co105)) (fun _ hk => hk.2) (.slice Ao106 t144.length co106)) (fun _ h_ => h_.1))) (Kd.R_typed (by (with_reducible repeat (first | apply Kd.R_alloc | apply Kd.R_drewN | apply Kd.R_drew)); exact (Kd.R_mono (Kd.R_far (p := ⟨gb147, 5, none⟩) (Kd.R_far (p := ⟨gb147, 4, none⟩) (Kd.R_far (p := ⟨gb147, 3, none⟩) (Kd.R_far (p := ⟨gb147, 2, none⟩) (Kd.R_far (p := ⟨gb147, 1, none⟩) (Kd.R_far (p := ⟨gb147, 0, none⟩) (Kd.R_types HO143.out BK147.out (by decide)) (fun _ hk => hk.2) (.string t131)) (fun _ hk => hk.2) (.slice Ao102 t132.length co102)) (fun _ hk => hk.2) (.slice Ao103 t135.length co103)) (fun _ hk => hk.2) (.slice Ao104 t138.length co104)) (fun _ hk => hk.2) (.slice Ao105 t141.length co105)) (fun _ hk => hk.2) (.slice Ao106 t144.length co106)) (fun _ h_ => h_.1)))) (by decide) hg); have n9_ := Aside0.mk (Kd.R_after (ok := (fun k_ => some k_ ≠ (.slice Ao27 t112.length co27 : Value).ownBlock ∧ some k_ ≠ (.slice Ao28 t115.length co28 : Value).ownBlock)) (by (with_reducible repeat (first | apply Kd.R_alloc | apply Kd.R_drewN | apply Kd.R_drew)); exact Kd.R_mono (Kd.R_far (p := ⟨gb147, 5, none⟩) (Kd.R_far (p := ⟨gb147, 4, none⟩) (Kd.R_far (p := ⟨gb147, 3, none⟩) (Kd.R_far (p := ⟨gb147, 2, none⟩) (Kd.R_far (p := ⟨gb147, 1, none⟩) (Kd.R_far (p := ⟨gb147, 0, none⟩) (Kd.R_types HO140.out BK147.out (by decide)) (fun _ hk => hk.2) (.string t131)) (fun _ hk => hk.2) (.slice Ao102 t132.length co102)) (fun _ hk => hk.2) (.slice Ao103 t135.length co103)) (fun _ hk => hk.2) (.slice Ao104 t138.length co104)) (fun _ hk => hk.2) (.slice Ao105 t141.length co105)) (fun _ hk => hk.2) (.slice Ao106 t144.length co106)) (fun _ hk => ⟨⟨hk.1.1.2, hk.1.2⟩, hk.1.1.1⟩)) hg hat); have n10_ := Aside0.mk (Kd.R_over' (by (with_reducible repeat (first | apply Kd.R_alloc | apply Kd.R_drewN | apply Kd.R_drew)); exact (Kd.R_mono (Kd.R_far (p := ⟨gb147, 5, none⟩) (Kd.R_far (p := ⟨gb147, 4, none⟩) (Kd.R_far (p := ⟨gb147, 3, none⟩) (Kd.R_far (p := ⟨gb147, 2, none⟩) (Kd.R_far (p := ⟨gb147, 1, none⟩) (Kd.R_far (p := ⟨gb147, 0, none⟩) (Kd.R_types HO146.out BK147.out (by decide)) (fun _ hk => hk.2) (.string t131)) (fun _ hk => hk.2) (.slice Ao102 t132.length co102)) (fun _ hk => hk.2) (.slice Ao103 t135.length co103)) (fun _ hk => hk.2) (.slice Ao104 t138.length co104)) (fun _ hk => hk.2) (.slice Ao105 t141.length co105)) (fun _ hk => hk.2) (.slice Ao106 t144.length co106)) (fun _ h_ => h_.1))) (Kd.R_typed (by (with_reducible repeat (first | apply Kd.R_alloc | apply Kd.R_drewN | apply Kd.R_drew)); exact (Kd.R_mono (Kd.R_far (p := ⟨gb147, 5, none⟩) (Kd.R_far (p := ⟨gb147, 4, none⟩) (Kd.R_far (p := ⟨gb147, 3, none⟩) (Kd.R_far (p := ⟨gb147, 2, none⟩) (Kd.R_far (p := ⟨gb147, 1, none⟩) (Kd.R_far (p := ⟨gb147, 0, none⟩) (Kd.R_types HO143.out BK147.out (by decide)) (fun _ hk => hk.2) (.string t131)) (fun _ hk => hk.2) (.slice Ao102 t132.length co102)) (fun _ hk => hk.2) (.slice Ao103 t135.length co103)) (fun _ hk => hk.2) (.slice Ao104 t138.length co104)) (fun _ hk => hk.2) (.slice Ao105 t141.length co105)) (fun _ hk => hk.2) (.slice Ao106 t144.length co106)) (fun _ h_ => h_.1)))) (by decide) hg); have n11_ := Aside0.mk (blk_grown (g := gb147) (o := .cells #[.string t131, .slice Ao102 t132.length co102, .slice Ao103 t135.length co103, .slice Ao104 t138.length co104, .slice Ao105 t141.length co105, .slice Ao106 t144.length co106] 26 (0, 0)) (by (with_reducible repeat (first | refine blk_drewN ?_ _ | refine blk_drew ?_ | refine blk_alloc ?_ _)); refine blk_put (cs := #[.string t131, .slice Ao102 t132.length co102, .slice Ao103 t135.length co103, .slice Ao104 t138.length co104, .slice Ao105 t141.length co105, .slice none 0 0]) ?_ 5 _ rfl; (with_reducible repeat (first | refine blk_drewN ?_ _ | refine blk_drew ?_ | refine blk_alloc ?_ _)); refine blk_put (cs := #[.string t131, .slice Ao102 t132.length co102, .slice Ao103 t135.length co103, .slice Ao104 t138.length co104, .slice none 0 0, .slice none 0 0]) ?_ 4 _ rfl; (with_reducible repeat (first | refine blk_drewN ?_ _ | refine blk_drew ?_ | refine blk_alloc ?_ _)); refine blk_put (cs := #[.string t131, .slice Ao102 t132.length co102, .slice Ao103 t135.length co103, .slice none 0 0, .slice none 0 0, .slice none 0 0]) ?_ 3 _ rfl; (with_reducible repeat (first | refine blk_drewN ?_ _ | refine blk_drew ?_ | refine blk_alloc ?_ _)); refine blk_put (cs := #[.string t131, .slice Ao102 t132.length co102, .slice none 0 0, .slice none 0 0, .slice none 0 0, .slice none 0 0]) ?_ 2 _ rfl; (with_reducible repeat (first | refine blk_drewN ?_ _ | refine blk_drew ?_ | refine blk_alloc ?_ _)); refine blk_put (cs := #[.string t131, .slice none 0 0, .slice none 0 0, .slice none 0 0, .slice none 0 0, .slice none 0 0]) ?_ 1 _ rfl; (with_reducible repeat (first | refine blk_drewN ?_ _ | refine blk_drew ?_ | refine blk_alloc ?_ _)); refine blk_put (cs := #[.string (⟨#[]⟩ : ByteArray), .slice none 0 0, .slice none 0 0, .slice none 0 0, .slice none 0 0, .slice none 0 0]) ?_ 0 _ rfl; (with_reducible repeat (first | refine blk_drewN ?_ _ | refine blk_drew ?_ | refine blk_alloc ?_ _)); exact BK147.out) hg (Kd.R_ne HO143.out BK147.out (by decide))); have n12_ := Aside0.mk (hb); have n13_ := Aside0.mk (ho); clear HO_122001; clear HO_122002; clear HO_122003; clear HO_122004; clear HO_122005; clear BK101; clear BK121; clear HO134; clear HO137; clear HO140; clear HO146; clear BK147; clear HB; clear HO143; have HO_122001 := n0_; have HO_122002 := n1_; have HO_122003 := n2_; have HO_122004 := n3_; have HO_122005 := n4_; have BK101 := n5_; have BK121 := n6_; have HO134 := n7_; have HO137 := n8_; have HO140 := n9_; have HO146 := n10_; have BK147 := n11_; have HB := n12_; have HO150 := n13_; clear n0_ n1_ n2_ n3_ n4_ n5_ n6_ n7_ n8_ n9_ n10_ n11_ n12_ n13_; clear ho hb hg hat; obtain ⟨Ao108, co108, eo108⟩ := Kd.R_slice HO150.out; subst eo108; have hcz109_0 := cz BK147.out 0 (.string t131); have hcz109_1 := cz BK147.out 1 (.slice Ao102 t132.length co102); have hcz109_2 := cz BK147.out 2 (.slice Ao103 t135.length co103); have hcz109_3 := cz BK147.out 3 (.slice Ao104 t138.length co104); have hcz109_4 := cz BK147.out 4 (.slice Ao105 t141.length co105); have hcz109_5 := cz BK147.out 5 (.slice Ao106 t144.length co106); have hfz109_0 := blk_frozen BK147.out 0; have hfz109_1 := blk_frozen BK147.out 1; have hfz109_2 := blk_frozen BK147.out 2; have hfz109_3 := blk_frozen BK147.out 3; have hfz109_4 := blk_frozen BK147.out 4; have hfz109_5 := blk_frozen BK147.out 5))
                have n0_ : Aside0 (Kd.R Kd.string 9 (w107.setCell ⟨gb147, 4, none⟩ (.slice Ao108 y148.length co108)) w.heap.size (fun k_ => some k_ ≠ (.slice Ao31 y122.length co31 : Value).ownBlock ∧ some k_ ≠ (.slice Ao102 t132.length co102 : Value).ownBlock ∧ some k_ ≠ (.slice Ao103 t135.length co103 : Value).ownBlock) (.slice Ao25 t106.length co25) t106) := ⟨by (with_reducible repeat (first | apply Kd.R_alloc | apply Kd.R_drewN | apply Kd.R_drew)); exact Kd.R_mono (Kd.R_far (p := ⟨gb147, 4, none⟩) (Kd.R_types HO_122001.out BK147.out (by decide)) (fun _ hk => hk.2) (.slice Ao108 y148.length co108)) (fun _ hk => ⟨hk.1.1.1, ⟨hk.1.1.2, hk.1.2⟩⟩)⟩
                have n1_ : Aside0 (Kd.R Kd.string 9 (w107.setCell ⟨gb147, 4, none⟩ (.slice Ao108 y148.length co108)) w.heap.size (fun k_ => some k_ ≠ (.slice Ao25 t106.length co25 : Value).ownBlock ∧ some k_ ≠ (.slice Ao102 t132.length co102 : Value).ownBlock ∧ some k_ ≠ (.slice Ao103 t135.length co103 : Value).ownBlock) (.slice Ao31 y122.length co31) y122) := ⟨by (with_reducible repeat (first | apply Kd.R_alloc | apply Kd.R_drewN | apply Kd.R_drew)); exact Kd.R_mono (Kd.R_far (p := ⟨gb147, 4, none⟩) (Kd.R_types HO_122002.out BK147.out (by decide)) (fun _ hk => hk.2) (.slice Ao108 y148.length co108)) (fun _ hk => ⟨hk.1.1.1, ⟨hk.1.1.2, hk.1.2⟩⟩)⟩
                have n2_ : Aside0 (Kd.R (Kd.int .u32) 44 (w107.setCell ⟨gb147, 4, none⟩ (.slice Ao108 y148.length co108)) w.heap.size (fun k_ => some k_ ≠ (.slice Ao28 t115.length co28 : Value).ownBlock ∧ some k_ ≠ (.slice Ao104 t138.length co104 : Value).ownBlock ∧ some k_ ≠ (.slice Ao108 y148.length co108 : Value).ownBlock) (.slice Ao27 t112.length co27) t112) := ⟨by (with_reducible repeat (first | apply Kd.R_alloc | apply Kd.R_drewN | apply Kd.R_drew)); exact Kd.R_mono (Kd.R_far (p := ⟨gb147, 4, none⟩) (Kd.R_types HO_122003.out BK147.out (by decide)) (fun _ hk => hk.2) (.slice Ao108 y148.length co108)) (fun _ hk => ⟨hk.1.1.1, ⟨hk.1.1.2, hk.1.2⟩⟩)⟩
                have n3_ : Aside0 (Kd.R (Kd.int .u32) 44 (w107.setCell ⟨gb147, 4, none⟩ (.slice Ao108 y148.length co108)) w.heap.size (fun k_ => some k_ ≠ (.slice Ao27 t112.length co27 : Value).ownBlock ∧ some k_ ≠ (.slice Ao104 t138.length co104 : Value).ownBlock ∧ some k_ ≠ (.slice Ao108 y148.length co108 : Value).ownBlock) (.slice Ao28 t115.length co28) t115) := ⟨by (with_reducible repeat (first | apply Kd.R_alloc | apply Kd.R_drewN | apply Kd.R_drew)); exact Kd.R_mono (Kd.R_far (p := ⟨gb147, 4, none⟩) (Kd.R_types HO_122004.out BK147.out (by decide)) (fun _ hk => hk.2) (.slice Ao108 y148.length co108)) (fun _ hk => ⟨hk.1.1.1, ⟨hk.1.1.2, hk.1.2⟩⟩)⟩
                have n4_ : Aside0 (Kd.R k43 43 (w107.setCell ⟨gb147, 4, none⟩ (.slice Ao108 y148.length co108)) w.heap.size (fun k_ => some k_ ≠ (.slice Ao106 t144.length co106 : Value).ownBlock) (.slice Ao29 t118.length co29) t118) := ⟨by (with_reducible repeat (first | apply Kd.R_alloc | apply Kd.R_drewN | apply Kd.R_drew)); exact Kd.R_mono (Kd.R_far (p := ⟨gb147, 4, none⟩) (Kd.R_types HO_122005.out BK147.out (by decide)) (fun _ hk => hk.2) (.slice Ao108 y148.length co108)) (fun _ hk => hk.1.2)⟩
                have n5_ : Aside0 (Kd.R Kd.string 9 (w107.setCell ⟨gb147, 4, none⟩ (.slice Ao108 y148.length co108)) w.heap.size (fun k_ => some k_ ≠ (.slice Ao25 t106.length co25 : Value).ownBlock ∧ some k_ ≠ (.slice Ao31 y122.length co31 : Value).ownBlock ∧ some k_ ≠ (.slice Ao103 t135.length co103 : Value).ownBlock) (.slice Ao102 t132.length co102) t132) := ⟨by (with_reducible repeat (first | apply Kd.R_alloc | apply Kd.R_drewN | apply Kd.R_drew)); exact Kd.R_mono (Kd.R_far (p := ⟨gb147, 4, none⟩) (Kd.R_types HO134.out BK147.out (by decide)) (fun _ hk => hk.2) (.slice Ao108 y148.length co108)) (fun _ hk => ⟨hk.1.1.2, ⟨hk.1.2, hk.1.1.1⟩⟩)⟩
                have n6_ : Aside0 (Kd.R Kd.string 9 (w107.setCell ⟨gb147, 4, none⟩ (.slice Ao108 y148.length co108)) w.heap.size (fun k_ => some k_ ≠ (.slice Ao25 t106.length co25 : Value).ownBlock ∧ some k_ ≠ (.slice Ao31 y122.length co31 : Value).ownBlock ∧ some k_ ≠ (.slice Ao102 t132.length co102 : Value).ownBlock) (.slice Ao103 t135.length co103) t135) := ⟨by (with_reducible repeat (first | apply Kd.R_alloc | apply Kd.R_drewN | apply Kd.R_drew)); exact Kd.R_mono (Kd.R_far (p := ⟨gb147, 4, none⟩) (Kd.R_types HO137.out BK147.out (by decide)) (fun _ hk => hk.2) (.slice Ao108 y148.length co108)) (fun _ hk => ⟨hk.1.1.2, ⟨hk.1.2, hk.1.1.1⟩⟩)⟩
                have n7_ : Aside0 (Kd.R (Kd.int .u32) 44 (w107.setCell ⟨gb147, 4, none⟩ (.slice Ao108 y148.length co108)) w.heap.size (fun k_ => some k_ ≠ (.slice Ao27 t112.length co27 : Value).ownBlock ∧ some k_ ≠ (.slice Ao28 t115.length co28 : Value).ownBlock ∧ some k_ ≠ (.slice Ao108 y148.length co108 : Value).ownBlock) (.slice Ao104 t138.length co104) t138) := ⟨by (with_reducible repeat (first | apply Kd.R_alloc | apply Kd.R_drewN | apply Kd.R_drew)); exact Kd.R_mono (Kd.R_far (p := ⟨gb147, 4, none⟩) (Kd.R_types HO140.out BK147.out (by decide)) (fun _ hk => hk.2) (.slice Ao108 y148.length co108)) (fun _ hk => ⟨hk.1.1.1, ⟨hk.1.1.2, hk.1.2⟩⟩)⟩
                have n8_ : Aside0 (Kd.R k43 43 (w107.setCell ⟨gb147, 4, none⟩ (.slice Ao108 y148.length co108)) w.heap.size (fun k_ => some k_ ≠ (.slice Ao29 t118.length co29 : Value).ownBlock) (.slice Ao106 t144.length co106) t144) := ⟨by (with_reducible repeat (first | apply Kd.R_alloc | apply Kd.R_drewN | apply Kd.R_drew)); exact Kd.R_mono (Kd.R_far (p := ⟨gb147, 4, none⟩) (Kd.R_types HO146.out BK147.out (by decide)) (fun _ hk => hk.2) (.slice Ao108 y148.length co108)) (fun _ hk => hk.1.2)⟩
                have n9_ : Aside0 (Kd.R (Kd.int .u32) 44 (w107.setCell ⟨gb147, 4, none⟩ (.slice Ao108 y148.length co108)) w.heap.size (fun k_ => some k_ ≠ (.slice Ao27 t112.length co27 : Value).ownBlock ∧ some k_ ≠ (.slice Ao28 t115.length co28 : Value).ownBlock ∧ some k_ ≠ (.slice Ao104 t138.length co104 : Value).ownBlock) (.slice Ao108 y148.length co108) y148) := ⟨by (with_reducible repeat (first | apply Kd.R_alloc | apply Kd.R_drewN | apply Kd.R_drew)); exact Kd.R_mono (Kd.R_far (p := ⟨gb147, 4, none⟩) (Kd.R_types HO150.out BK147.out (by decide)) (fun _ hk => hk.2) (.slice Ao108 y148.length co108)) (fun _ hk => ⟨hk.1.1, ⟨hk.1.2.1, hk.1.2.2⟩⟩)⟩
                have n10_ : Aside0 ((w107.setCell ⟨gb147, 4, none⟩ (.slice Ao108 y148.length co108)).heap[gb101]? = some (.cells #[.string a0_0, .slice A0_1 l0_1.length c0_1, .slice A0_2 l0_2.length c0_2, .slice A0_3 l0_3.length c0_3, .slice A0_4 l0_4.length c0_4, .slice A0_5 l0_5.length c0_5] 26 (0, 0))) := ⟨by (with_reducible repeat (first | refine blk_drewN ?_ _ | refine blk_drew ?_ | refine blk_alloc ?_ _)); refine blk_far ?_ NB101_147.out _; (with_reducible repeat (first | refine blk_drewN ?_ _ | refine blk_drew ?_ | refine blk_alloc ?_ _)); exact BK101.out⟩
                have n11_ : Aside0 ((w107.setCell ⟨gb147, 4, none⟩ (.slice Ao108 y148.length co108)).heap[gb121]? = some (.cells #[.string t105, .slice Ao25 t106.length co25, .slice Ao31 y122.length co31, .slice Ao27 t112.length co27, .slice Ao28 t115.length co28, .slice Ao29 t118.length co29] 26 (0, 0))) := ⟨by (with_reducible repeat (first | refine blk_drewN ?_ _ | refine blk_drew ?_ | refine blk_alloc ?_ _)); refine blk_far ?_ NB121_147.out _; (with_reducible repeat (first | refine blk_drewN ?_ _ | refine blk_drew ?_ | refine blk_alloc ?_ _)); exact BK121.out⟩
                have n12_ : Aside0 ((w107.setCell ⟨gb147, 4, none⟩ (.slice Ao108 y148.length co108)).heap[gb147]? = some (.cells #[.string t131, .slice Ao102 t132.length co102, .slice Ao103 t135.length co103, .slice Ao104 t138.length co104, .slice Ao108 y148.length co108, .slice Ao106 t144.length co106] 26 (0, 0))) := ⟨by (with_reducible repeat (first | refine blk_drewN ?_ _ | refine blk_drew ?_ | refine blk_alloc ?_ _)); refine blk_put (cs := #[.string t131, .slice Ao102 t132.length co102, .slice Ao103 t135.length co103, .slice Ao104 t138.length co104, .slice Ao105 t141.length co105, .slice Ao106 t144.length co106]) ?_ 4 _ rfl; (with_reducible repeat (first | refine blk_drewN ?_ _ | refine blk_drew ?_ | refine blk_alloc ?_ _)); exact BK147.out⟩
                have n13_ : Aside0 (Below w.heap.size w (w107.setCell ⟨gb147, 4, none⟩ (.slice Ao108 y148.length co108))) := ⟨tg3 HB.out GE101.out GE121.out GE147.out⟩
                (try clear HO_122001)
                (try clear HO_122002)
                (try clear HO_122003)
                (try clear HO_122004)
                (try clear HO_122005)
                (try clear HO134)
                (try clear HO137)
                (try clear HO140)
                (try clear HO146)
                (try clear HO150)
                (try clear BK101)
                (try clear BK121)
                (try clear BK147)
                (try clear HB)
                generalize (w107.setCell ⟨gb147, 4, none⟩ (.slice Ao108 y148.length co108)) = w110 at n0_ n1_ n2_ n3_ n4_ n5_ n6_ n7_ n8_ n9_ n10_ n11_ n12_ n13_ ⊢
                have HO_122001 := n0_
                have HO_122002 := n1_
                have HO_122003 := n2_
                have HO_122004 := n3_
                have HO_122005 := n4_
                have HO134 := n5_
                have HO137 := n6_
                have HO140 := n7_
                have HO146 := n8_
                have HO150 := n9_
                have BK101 := n10_
                have BK121 := n11_
                have BK147 := n12_
                have HB := n13_
                clear n0_ n1_ n2_ n3_ n4_ n5_ n6_ n7_ n8_ n9_ n10_ n11_ n12_ n13_
                replace HO_122001 := Aside0.mk (Kd.R_drew HO_122001.out)
                replace HO_122002 := Aside0.mk (Kd.R_drew HO_122002.out)
                replace HO_122003 := Aside0.mk (Kd.R_drew HO_122003.out)
                replace HO_122004 := Aside0.mk (Kd.R_drew HO_122004.out)
                replace HO_122005 := Aside0.mk (Kd.R_drew HO_122005.out)
                replace HO134 := Aside0.mk (Kd.R_drew HO134.out)
                replace HO137 := Aside0.mk (Kd.R_drew HO137.out)
                replace HO140 := Aside0.mk (Kd.R_drew HO140.out)
                replace HO146 := Aside0.mk (Kd.R_drew HO146.out)
                replace HO150 := Aside0.mk (Kd.R_drew HO150.out)
                replace BK101 := Aside0.mk (blk_drew BK101.out)
                replace BK121 := Aside0.mk (blk_drew BK121.out)
                replace BK147 := Aside0.mk (blk_drew BK147.out)
                replace HB := Aside0.mk (below_drew1 HB.out)
                refine start_ (n := 16) (S := fun w' => w'.cell? ⟨gb147, 0, none⟩ = some (.string t131) ∧ w'.cell? ⟨gb147, 1, none⟩ = some (.slice Ao102 t132.length co102) ∧ w'.cell? ⟨gb147, 2, none⟩ = some (.slice Ao103 t135.length co103) ∧ w'.cell? ⟨gb147, 3, none⟩ = some (.slice Ao104 t138.length co104) ∧ w'.cell? ⟨gb147, 4, none⟩ = some (.slice Ao108 y148.length co108) ∧ w'.cell? ⟨gb147, 5, none⟩ = some (.slice Ao106 t144.length co106) ∧ w'.cell? ⟨gb101, 0, none⟩ = some (.string a0_0) ∧ w'.cell? ⟨gb101, 1, none⟩ = some (.slice A0_1 l0_1.length c0_1) ∧ w'.cell? ⟨gb101, 2, none⟩ = some (.slice A0_2 l0_2.length c0_2) ∧ w'.cell? ⟨gb101, 3, none⟩ = some (.slice A0_3 l0_3.length c0_3) ∧ w'.cell? ⟨gb101, 4, none⟩ = some (.slice A0_4 l0_4.length c0_4) ∧ w'.cell? ⟨gb101, 5, none⟩ = some (.slice A0_5 l0_5.length c0_5)) (ds := []) #[false, false, false, false, false, false, false, false, false, false, false, false, false, false, false, false] (by kernel_rfl) rfl rfl ⟨(blk_cell BK147.out 0).trans rfl, (blk_cell BK147.out 1).trans rfl, (blk_cell BK147.out 2).trans rfl, (blk_cell BK147.out 3).trans rfl, (blk_cell BK147.out 4).trans rfl, (blk_cell BK147.out 5).trans rfl, (blk_cell BK101.out 0).trans rfl, (blk_cell BK101.out 1).trans rfl, (blk_cell BK101.out 2).trans rfl, (blk_cell BK101.out 3).trans rfl, (blk_cell BK101.out 4).trans rfl, (blk_cell BK101.out 5).trans rfl⟩ (fun hHeld => ?_); refine with_tabW budwoodlaw11_ValidMore.tab19 budwoodlaw11_ValidMore.bits19 (fun HT_ HW_ => ?_)
                generalize w110.drew = w111 at HO_122001 HO_122002 HO_122003 HO_122004 HO_122005 HO134 HO137 HO140 HO146 HO150 BK101 BK121 BK147 HB hHeld ⊢
                refine pure_ (i := 0) (N := some 99) (v := ?_) (a' := ?_) #[true, false, false, false, false, false, false, false, false, false, false, false, false, false, false, false] rfl rfl (any_of HT_.out (by kernel_rfl)) (fun _ _ _ h => h) (Or.inl ⟨by rfl, ?_⟩) ?_ ?_
                rotate_left
                ·intro w'
                 go_simp
                 with_reducible rfl
                rotate_left
                ·simp only [Act.put, List.setIfInBounds_toArray, List.set_cons_zero, List.set_cons_succ, i64_w, i32_w]
                 rfl
                refine pure_ (i := 1) (N := some 100) (v := ?_) (a' := ?_) #[true, true, false, false, false, false, false, false, false, false, false, false, false, false, false, false] rfl rfl (any_of HT_.out (by kernel_rfl)) (fun _ _ _ h => h) (Or.inl ⟨by rfl, ?_⟩) ?_ ?_
                rotate_left
                ·intro w'
                 go_simp
                 with_reducible rfl
                rotate_left
                ·simp only [Act.put, List.setIfInBounds_toArray, List.set_cons_zero, List.set_cons_succ, i64_w, i32_w]
                 rfl
                refine pure_ (i := 2) (N := some 101) (v := ?_) (a' := ?_) #[true, true, true, false, false, false, false, false, false, false, false, false, false, false, false, false] rfl rfl (any_of HT_.out (by kernel_rfl)) (fun _ _ _ h => h) (Or.inl ⟨by rfl, ?_⟩) ?_ ?_
                rotate_left
                ·intro w'
                 go_simp
                 with_reducible rfl
                rotate_left
                ·simp only [Act.put, List.setIfInBounds_toArray, List.set_cons_zero, List.set_cons_succ, i64_w, i32_w]
                 rfl
                refine pure_ (i := 6) (N := some 105) (v := ?_) (a' := ?_) #[true, true, true, false, false, false, true, false, false, false, false, false, false, false, false, false] rfl rfl (any_of HT_.out (by kernel_rfl)) (fun _ _ _ h => h) (Or.inl ⟨by rfl, ?_⟩) ?_ ?_
                rotate_left
                ·intro w'
                 go_simp
                 with_reducible rfl
                rotate_left
                ·simp only [Act.put, List.setIfInBounds_toArray, List.set_cons_zero, List.set_cons_succ, i64_w, i32_w]
                 rfl
                refine take_ (i := 3) (N := some 102) (v := ?_) (a' := ?_) #[true, true, true, true, false, false, true, false, false, false, false, false, false, false, false, false] rfl rfl (take_ofW HT_.out HW_.out (by kernel_rfl)) (fun _ _ _ h => h) (Or.inl ⟨by rfl, ?_⟩) hHeld ?_ ?_
                rotate_left
                ·rintro w' ⟨s0, s1, s2, s3, s4, s5, s6, s7, s8, s9, s10, s11⟩
                 go_simp
                 with_reducible rfl
                rotate_left
                ·simp only [Act.put, List.setIfInBounds_toArray, List.set_cons_zero, List.set_cons_succ, i64_w, i32_w]
                 rfl
                refine take_ (i := 7) (N := some 106) (v := ?_) (a' := ?_) #[true, true, true, true, false, false, true, true, false, false, false, false, false, false, false, false] rfl rfl (take_ofW HT_.out HW_.out (by kernel_rfl)) (fun _ _ _ h => h) (Or.inl ⟨by rfl, ?_⟩) hHeld ?_ ?_
                rotate_left
                ·rintro w' ⟨s0, s1, s2, s3, s4, s5, s6, s7, s8, s9, s10, s11⟩
                 go_simp
                 with_reducible rfl
                rotate_left
                ·simp only [Act.put, List.setIfInBounds_toArray, List.set_cons_zero, List.set_cons_succ, i64_w, i32_w]
                 rfl
                refine pure_ (i := 8) (N := some 107) (v := ?_) (a' := ?_) #[true, true, true, true, false, false, true, true, true, false, false, false, false, false, false, false] rfl rfl (any_of HT_.out (by kernel_rfl)) (fun _ _ _ h => h) (Or.inl ⟨by rfl, ?_⟩) ?_ ?_
                rotate_left
                ·intro w'
                 go_simp
                 with_reducible rfl
                rotate_left
                ·simp only [Act.put, List.setIfInBounds_toArray, List.set_cons_zero, List.set_cons_succ, i64_w, i32_w]
                 rfl
                refine pure_ (i := 9) (N := some 108) (v := ?_) (a' := ?_) #[true, true, true, true, false, false, true, true, true, true, false, false, false, false, false, false] rfl rfl (any_of HT_.out (by kernel_rfl)) (fun _ _ _ h => h) (Or.inl ⟨by rfl, ?_⟩) ?_ ?_
                rotate_left
                ·intro w'
                 go_simp
                 with_reducible rfl
                rotate_left
                ·simp only [Act.put, List.setIfInBounds_toArray, List.set_cons_zero, List.set_cons_succ, i64_w, i32_w]
                 rfl
                refine one_ (i := 4) (N := some 103) #[true, true, true, true, true, false, true, true, true, true, false, false, false, false, false, false] rfl rfl (one_of HT_.out (by kernel_rfl)) (by decide) (fun K hK => ?_)
                refine goes_ Tryd.func18 (by kernel_rfl) rfl #[.agg #[.string t131, .slice Ao102 t132.length co102, .slice Ao103 t135.length co103, .slice Ao104 t138.length co104, .slice Ao108 y148.length co108, .slice Ao106 t144.length co106]] (by rfl) rfl rfl tm ?_
                with_reducible refine (valid_Check.calls kj40 t131 _ _ t132 _ _ t135 _ _ t138 _ _ y148 _ _ t144 t151 _ ?side11 ?side1 ?side2 ?side3 ?side4 ?side5 ?side6 ?side7 ?side8 ?side9 ?side10 A73.out).mono ?_
                (case side1 => exact tr HO134.out)
                (case side2 => exact rl HO134.out)
                (case side3 => exact tr HO137.out)
                (case side4 => exact rl HO137.out)
                (case side5 => exact tr HO140.out)
                (case side6 => exact rl HO140.out)
                (case side7 => exact tr HO150.out)
                (case side8 => exact rl HO150.out)
                (case side9 => exact tr HO146.out)
                (case side10 => exact rl HO146.out)
                (case side11 => first | exact HG.out | exact Glob.below HG.out (tg3 HB.out GE101.out GE121.out GE147.out))
                rintro e w112 ⟨rfl, hb⟩
                refine ⟨_, rfl, ?_⟩
                replace HO_122001 := ra HO_122001.out hb
                replace HO_122002 := ra HO_122002.out hb
                replace HO_122003 := ra HO_122003.out hb
                replace HO_122004 := ra HO_122004.out hb
                replace HO_122005 := ra HO_122005.out hb
                replace HO134 := ra HO134.out hb
                replace HO137 := ra HO137.out hb
                replace HO140 := ra HO140.out hb
                replace HO146 := ra HO146.out hb
                replace HO150 := ra HO150.out hb
                replace BK101 := ba BK101.out hb
                replace BK121 := ba BK121.out hb
                replace BK147 := ba BK147.out hb
                replace HB := Aside0.mk (below_step (tg3 HB.out GE101.out GE121.out GE147.out) hb)
                (try clear hb)
                (try clear hb2)
                (try clear hk)
                (try clear hi)
                refine hK.out _ _ ⟨(blk_cell BK147.out 0).trans rfl, (blk_cell BK147.out 1).trans rfl, (blk_cell BK147.out 2).trans rfl, (blk_cell BK147.out 3).trans rfl, (blk_cell BK147.out 4).trans rfl, (blk_cell BK147.out 5).trans rfl, (blk_cell BK101.out 0).trans rfl, (blk_cell BK101.out 1).trans rfl, (blk_cell BK101.out 2).trans rfl, (blk_cell BK101.out 3).trans rfl, (blk_cell BK101.out 4).trans rfl, (blk_cell BK101.out 5).trans rfl⟩ (fun hHeld => ?_)
                clear hK K
                refine norm_ (a' := ?_) ?_ ?_
                rotate_left
                ·show Act.put _ (some 103) _ = _
                 simp only [Act.put, List.setIfInBounds_toArray, List.set_cons_zero, List.set_cons_succ, i64_w, i32_w]
                 rfl
                refine pure_ (i := 5) (N := some 104) (v := ?_) (a' := ?_) #[true, true, true, true, true, true, true, true, true, true, false, false, false, false, false, false] rfl rfl (any_of HT_.out (by kernel_rfl)) (fun _ _ _ h => h) (Or.inl ⟨by rfl, ?_⟩) ?_ ?_
                rotate_left
                ·intro w'
                 go_simp
                 with_reducible rfl
                rotate_left
                ·simp only [Act.put, List.setIfInBounds_toArray, List.set_cons_zero, List.set_cons_succ, i64_w, i32_w]
                 rfl
                refine pure_ (i := 10) (N := some 109) (v := ?_) (a' := ?_) #[true, true, true, true, true, true, true, true, true, true, true, false, false, false, false, false] rfl rfl (any_of HT_.out (by kernel_rfl)) (fun _ _ _ h => h) (Or.inl ⟨by rfl, ?_⟩) ?_ ?_
                rotate_left
                ·intro w'
                 go_simp
                 with_reducible rfl
                rotate_left
                ·simp only [Act.put, List.setIfInBounds_toArray, List.set_cons_zero, List.set_cons_succ, i64_w, i32_w]
                 rfl
                refine pure_ (i := 11) (N := some 110) (v := ?_) (a' := ?_) #[true, true, true, true, true, true, true, true, true, true, true, true, false, false, false, false] rfl rfl (any_of HT_.out (by kernel_rfl)) (fun _ _ _ h => h) (Or.inl ⟨by rfl, ?_⟩) ?_ ?_
                rotate_left
                ·intro w'
                 go_simp
                 with_reducible rfl
                rotate_left
                ·simp only [Act.put, List.setIfInBounds_toArray, List.set_cons_zero, List.set_cons_succ, i64_w, i32_w]
                 rfl
                refine pure_ (i := 12) (N := some 111) (v := ?_) (a' := ?_) #[true, true, true, true, true, true, true, true, true, true, true, true, true, false, false, false] rfl rfl (any_of HT_.out (by kernel_rfl)) (fun _ _ _ h => h) (Or.inl ⟨by rfl, ?_⟩) ?_ ?_
                rotate_left
                ·intro w'
                 go_simp
                 with_reducible rfl
                rotate_left
                ·simp only [Act.put, List.setIfInBounds_toArray, List.set_cons_zero, List.set_cons_succ, i64_w, i32_w]
                 rfl
                refine pure_ (i := 13) (N := some 112) (v := undef) (a' := ?_) #[true, true, true, true, true, true, true, true, true, true, true, true, true, true, false, false] rfl rfl (any_of HT_.out (by kernel_rfl)) (fun _ _ _ h => h) (Or.inr ⟨by rfl, rfl⟩) ?_ ?_
                rotate_left
                ·simp only [Act.put, List.setIfInBounds_toArray, List.set_cons_zero, List.set_cons_succ, i64_w, i32_w]
                 rfl
                refine pure_ (i := 14) (N := some 113) (v := ?_) (a' := ?_) #[true, true, true, true, true, true, true, true, true, true, true, true, true, true, true, false] rfl rfl (any_of HT_.out (by kernel_rfl)) (fun _ _ _ h => h) (Or.inl ⟨by rfl, ?_⟩) ?_ ?_
                rotate_left
                ·intro w'
                 go_simp
                 with_reducible rfl
                rotate_left
                ·simp only [Act.put, List.setIfInBounds_toArray, List.set_cons_zero, List.set_cons_succ, i64_w, i32_w]
                 rfl
                refine pure_ (i := 15) (N := some 4) (v := ?_) (a' := ?_) #[true, true, true, true, true, true, true, true, true, true, true, true, true, true, true, true] rfl rfl (any_of HT_.out (by kernel_rfl)) (fun _ _ _ h => h) (Or.inl ⟨by rfl, ?_⟩) ?_ ?_
                rotate_left
                ·intro w'
                 go_simp
                 with_reducible rfl
                rotate_left
                ·simp only [Act.put, List.setIfInBounds_toArray, List.set_cons_zero, List.set_cons_succ, i64_w, i32_w]
                 rfl
                refine done_ (done_of HT_.out (by kernel_rfl)) ?_
                try go_wp2
                go_ret
                exact ⟨by first | rfl | (simp [errW_none, errW_some] <;> rfl) | (simp [*, errW_none, errW_some] <;> rfl), tg3 HB.out GE101.out GE121.out GE147.out⟩
              ·rw [if_neg c72] at H
               have c72b0 : (t125 == 0) = false := beq_eq_false_iff_ne.mpr c72
               have c72b1 : (t125 != 0) = true := bne_iff_ne.mpr c72
               obtain rfl := Option.some.inj H
               have hnb113 := NB101_121.out
               have hnc113 := NB121_101.out
               have hcz114_0 := cz BK101.out 0 (.string a0_0)
               have hcz114_1 := cz BK101.out 1 (.slice A0_1 l0_1.length c0_1)
               have hcz114_2 := cz BK101.out 2 (.slice A0_2 l0_2.length c0_2)
               have hcz114_3 := cz BK101.out 3 (.slice A0_3 l0_3.length c0_3)
               have hcz114_4 := cz BK101.out 4 (.slice A0_4 l0_4.length c0_4)
               have hcz114_5 := cz BK101.out 5 (.slice A0_5 l0_5.length c0_5)
               have hfz114_0 := blk_frozen BK101.out 0
               have hfz114_1 := blk_frozen BK101.out 1
               have hfz114_2 := blk_frozen BK101.out 2
               have hfz114_3 := blk_frozen BK101.out 3
               have hfz114_4 := blk_frozen BK101.out 4
               have hfz114_5 := blk_frozen BK101.out 5
               try go_wp2_with (first | ((with_reducible refine gate_callee (f := 15) rfl ?_); refine goesL_ (some 93) rfl rfl Tryd.func15 (by kernel_rfl) rfl #[.agg #[.string a0_0, .slice A0_1 l0_1.length c0_1, .slice A0_2 l0_2.length c0_2, .slice A0_3 l0_3.length c0_3, .slice A0_4 l0_4.length c0_4, .slice A0_5 l0_5.length c0_5]] rfl tm ?_; (with_reducible refine (budwoodref10_Copy.calls a0_0 _ _ l0_1 _ _ l0_2 _ _ l0_3 _ _ l0_4 _ _ l0_5 t131 t132 t135 t138 t141 t144 _ ?side1 ?side2 ?side3 ?side4 ?side5 ?side6 ?side7 ?side8 ?side9 ?side10 A70.out).mono ?_); (case side1 => exact tc (Kd.C_below HR0_1.out HB.out)); (case side2 => exact HC0_1.out); (case side3 => exact tc (Kd.C_below HR0_2.out HB.out)); (case side4 => exact HC0_2.out); (case side5 => exact tc (Kd.C_below HR0_3.out HB.out)); (case side6 => exact HC0_3.out); (case side7 => exact tc (Kd.C_below HR0_4.out HB.out)); (case side8 => exact HC0_4.out); (case side9 => exact tc (Kd.C_below HR0_5.out HB.out)); (case side10 => exact HC0_5.out); rintro e w115 ⟨v133, v136, v139, v142, v145, rfl, ho0, ho1, ho2, ho3, ho4, hb⟩; refine ⟨_, rfl, ?_⟩; have n0_ := Aside0.mk (Kd.R_mono (Kd.R_told (Kd.R_told (Kd.R_old (tk HO_122001.out) hb) (Kd.R_base ho0)) (Kd.R_base ho1)) (fun _ h_ => h_.1)); have n1_ := Aside0.mk (Kd.R_mono (Kd.R_told (Kd.R_told (Kd.R_old (tk HO_122002.out) hb) (Kd.R_base ho0)) (Kd.R_base ho1)) (fun _ h_ => h_.1)); have n2_ := Aside0.mk (Kd.R_mono (Kd.R_told (Kd.R_told (Kd.R_old (tk HO_122003.out) hb) (Kd.R_base ho2)) (Kd.R_base ho3)) (fun _ h_ => h_.1)); have n3_ := Aside0.mk (Kd.R_mono (Kd.R_told (Kd.R_told (Kd.R_old (tk HO_122004.out) hb) (Kd.R_base ho2)) (Kd.R_base ho3)) (fun _ h_ => h_.1)); have n4_ := Aside0.mk (Kd.R_elder' (tk HO_122005.out) (Kd.R_base ho4) hb); have n5_ := Aside0.mk (Kd.R_lower (Kd.R_new' (Kd.R_new' ho0 (Kd.R_lt (tk HO_122001.out))) (Kd.R_lt (tk HO_122002.out))) (below_size (tg2 HB.out GE101.out GE121.out))); have n6_ := Aside0.mk (Kd.R_lower (Kd.R_new' (Kd.R_new' ho1 (Kd.R_lt (tk HO_122001.out))) (Kd.R_lt (tk HO_122002.out))) (below_size (tg2 HB.out GE101.out GE121.out))); have n7_ := Aside0.mk (Kd.R_lower (Kd.R_new' (Kd.R_new' ho2 (Kd.R_lt (tk HO_122003.out))) (Kd.R_lt (tk HO_122004.out))) (below_size (tg2 HB.out GE101.out GE121.out))); have n8_ := Aside0.mk (Kd.R_lower (Kd.R_new' (Kd.R_new' ho3 (Kd.R_lt (tk HO_122003.out))) (Kd.R_lt (tk HO_122004.out))) (below_size (tg2 HB.out GE101.out GE121.out))); have n9_ := Aside0.mk (Kd.R_lower (Kd.R_new' ho4 (Kd.R_lt (tk HO_122005.out))) (below_size (tg2 HB.out GE101.out GE121.out))); have n10_ := ba BK101.out hb; have n11_ := ba BK121.out hb; have n12_ := Aside0.mk (below_step (tg2 HB.out GE101.out GE121.out) hb); clear HO_122001; clear HO_122002; clear HO_122003; clear HO_122004; clear HO_122005; clear BK101; clear BK121; clear HB; have HO_122001 := n0_; have HO_122002 := n1_; have HO_122003 := n2_; have HO_122004 := n3_; have HO_122005 := n4_; have HO134 := n5_; have HO137 := n6_; have HO140 := n7_; have HO143 := n8_; have HO146 := n9_; have BK101 := n10_; have BK121 := n11_; have HB := n12_; clear n0_ n1_ n2_ n3_ n4_ n5_ n6_ n7_ n8_ n9_ n10_ n11_ n12_; (try clear hb); (try clear hb2); (try clear hk); (try clear hi); (try clear ho0); (try clear ho1); (try clear ho2); (try clear ho3); (try clear ho4)) | ((with_reducible refine gate_dst (N := 10) rfl ?_); (try (refine gate_guard (by rfl) ?_; dsimp only)); refine box_event ?hg (N := 10) ?hd (cs := #[.string (⟨#[]⟩ : ByteArray), .slice none 0 0, .slice none 0 0, .slice none 0 0, .slice none 0 0, .slice none 0 0]) (t := 26) ?hr ?_; (case hd => rfl); (case hg => rfl); (case hr => first | (go_simp; done) | (go_simp; rfl)); intro gb147 hg w116 hbox hb; have n0_ := ra HO_122001.out hb; have n1_ := ra HO_122002.out hb; have n2_ := ra HO_122003.out hb; have n3_ := ra HO_122004.out hb; have n4_ := ra HO_122005.out hb; have n5_ := ra HO134.out hb; have n6_ := ra HO137.out hb; have n7_ := ra HO140.out hb; have n8_ := ra HO143.out hb; have n9_ := ra HO146.out hb; have n10_ := ba BK101.out hb; have n11_ := ba BK121.out hb; have n12_ := Aside0.mk (below_step (tg2 HB.out GE101.out GE121.out) hb); have n13_ := Aside0.mk (hbox); have n14_ := Aside0.mk ((by rw [hg]; exact (below_size (tg2 HB.out GE101.out GE121.out)) : w.heap.size ≤ gb147)); have n15_ := Aside0.mk ((by rw [hg]; exact (below_size (tg2 HB.out GE101.out GE121.out)) : w.heap.size ≤ gb147)); have n16_ := Aside0.mk ((by rw [hg]; exact Nat.ne_of_lt (blk_lt (g := gb101) (o := .cells #[.string a0_0, .slice A0_1 l0_1.length c0_1, .slice A0_2 l0_2.length c0_2, .slice A0_3 l0_3.length c0_3, .slice A0_4 l0_4.length c0_4, .slice A0_5 l0_5.length c0_5] 26 (0, 0)) (tb BK101.out)) : gb101 ≠ gb147)); have n17_ := Aside0.mk ((by rw [hg]; exact Nat.ne_of_gt (blk_lt (g := gb101) (o := .cells #[.string a0_0, .slice A0_1 l0_1.length c0_1, .slice A0_2 l0_2.length c0_2, .slice A0_3 l0_3.length c0_3, .slice A0_4 l0_4.length c0_4, .slice A0_5 l0_5.length c0_5] 26 (0, 0)) (tb BK101.out)) : gb147 ≠ gb101)); have n18_ := Aside0.mk ((by rw [hg]; exact Nat.ne_of_lt (blk_lt (g := gb121) (o := .cells #[.string t105, .slice Ao25 t106.length co25, .slice Ao31 y122.length co31, .slice Ao27 t112.length co27, .slice Ao28 t115.length co28, .slice Ao29 t118.length co29] 26 (0, 0)) (tb BK121.out)) : gb121 ≠ gb147)); have n19_ := Aside0.mk ((by rw [hg]; exact Nat.ne_of_gt (blk_lt (g := gb121) (o := .cells #[.string t105, .slice Ao25 t106.length co25, .slice Ao31 y122.length co31, .slice Ao27 t112.length co27, .slice Ao28 t115.length co28, .slice Ao29 t118.length co29] 26 (0, 0)) (tb BK121.out)) : gb147 ≠ gb121)); clear HO_122001; clear HO_122002; clear HO_122003; clear HO_122004; clear HO_122005; clear HO134; clear HO137; clear HO140; clear HO143; clear HO146; clear BK101; clear BK121; clear HB; have HO_122001 := n0_; have HO_122002 := n1_; have HO_122003 := n2_; have HO_122004 := n3_; have HO_122005 := n4_; have HO134 := n5_; have HO137 := n6_; have HO140 := n7_; have HO143 := n8_; have HO146 := n9_; have BK101 := n10_; have BK121 := n11_; have HB := n12_; have BK147 := n13_; have GW147 := n14_; have GE147 := n15_; have NB101_147 := n16_; have NB147_101 := n17_; have NB121_147 := n18_; have NB147_121 := n19_; clear n0_ n1_ n2_ n3_ n4_ n5_ n6_ n7_ n8_ n9_ n10_ n11_ n12_ n13_ n14_ n15_ n16_ n17_ n18_ n19_; clear hb hbox hg; have hnb117 := NB147_101.out; have hnc117 := NB101_147.out; have hnb118 := NB147_121.out; have hnc118 := NB121_147.out; have hcz119_0 := cz BK147.out 0 (.string (⟨#[]⟩ : ByteArray)); have hcz119_1 := cz BK147.out 1 (.slice none 0 0); have hcz119_2 := cz BK147.out 2 (.slice none 0 0); have hcz119_3 := cz BK147.out 3 (.slice none 0 0); have hcz119_4 := cz BK147.out 4 (.slice none 0 0); have hcz119_5 := cz BK147.out 5 (.slice none 0 0); have hfz119_0 := blk_frozen BK147.out 0; have hfz119_1 := blk_frozen BK147.out 1; have hfz119_2 := blk_frozen BK147.out 2; have hfz119_3 := blk_frozen BK147.out 3; have hfz119_4 := blk_frozen BK147.out 4; have hfz119_5 := blk_frozen BK147.out 5; obtain ⟨Ao120, co120, eo120⟩ := Kd.R_slice HO134.out; subst eo120; obtain ⟨Ao121, co121, eo121⟩ := Kd.R_slice HO137.out; subst eo121; obtain ⟨Ao122, co122, eo122⟩ := Kd.R_slice HO140.out; subst eo122; obtain ⟨Ao123, co123, eo123⟩ := Kd.R_slice HO143.out; subst eo123; obtain ⟨Ao124, co124, eo124⟩ := Kd.R_slice HO146.out; subst eo124) | ((with_reducible refine gate_builtin (b := .append) (xs := #[.tmp 95, .tmp 96]) rfl ?_); (try (refine gate_guard (by rfl) ?_; dsimp only)); at_builtin; refine Kd.R_append (Kd.int .u32) (w0 := w) w.heap.size rfl (.tmp 95) (.tmp 96) 23 44 (.int .u32 0) 4 rfl Tryd.underlying23 info44 rfl (by decide) (by omega) (.slice Ao123 t141.length co123) t141 7 [.int .u32 7] (fun k_ => some k_ ≠ (.slice Ao27 t112.length co27 : Value).ownBlock ∧ some k_ ≠ (.slice Ao28 t115.length co28 : Value).ownBlock ∧ some k_ ≠ (.slice Ao122 t138.length co122 : Value).ownBlock) (fun _ => False) rfl (by first | (go_simp; done) | (go_simp; rfl)) ?aP (fun _ hk => hk.elim) ?aF ?aO ?aB ?aS ?aL ?_; (case aP => exact rfl); (case aB => exact (tg3 HB.out GE101.out GE121.out GE147.out)); (case aF => exact (fun k_ hk => ⟨Kd.fresh' (Kd.R_lt (by (with_reducible repeat (first | apply Kd.R_alloc | apply Kd.R_drewN | apply Kd.R_drew)); exact (Kd.R_mono (Kd.R_far (p := ⟨gb147, 5, none⟩) (Kd.R_far (p := ⟨gb147, 4, none⟩) (Kd.R_far (p := ⟨gb147, 3, none⟩) (Kd.R_far (p := ⟨gb147, 2, none⟩) (Kd.R_far (p := ⟨gb147, 1, none⟩) (Kd.R_far (p := ⟨gb147, 0, none⟩) (Kd.R_types HO_122003.out BK147.out (by decide)) (fun _ hk => hk.2) (.string t131)) (fun _ hk => hk.2) (.slice Ao120 t132.length co120)) (fun _ hk => hk.2) (.slice Ao121 t135.length co121)) (fun _ hk => hk.2) (.slice Ao122 t138.length co122)) (fun _ hk => hk.2) (.slice Ao123 t141.length co123)) (fun _ hk => hk.2) (.slice Ao124 t144.length co124)) (fun _ h_ => h_.1)))) k_ hk, Kd.fresh' (Kd.R_lt (by (with_reducible repeat (first | apply Kd.R_alloc | apply Kd.R_drewN | apply Kd.R_drew)); exact (Kd.R_mono (Kd.R_far (p := ⟨gb147, 5, none⟩) (Kd.R_far (p := ⟨gb147, 4, none⟩) (Kd.R_far (p := ⟨gb147, 3, none⟩) (Kd.R_far (p := ⟨gb147, 2, none⟩) (Kd.R_far (p := ⟨gb147, 1, none⟩) (Kd.R_far (p := ⟨gb147, 0, none⟩) (Kd.R_types HO_122004.out BK147.out (by decide)) (fun _ hk => hk.2) (.string t131)) (fun _ hk => hk.2) (.slice Ao120 t132.length co120)) (fun _ hk => hk.2) (.slice Ao121 t135.length co121)) (fun _ hk => hk.2) (.slice Ao122 t138.length co122)) (fun _ hk => hk.2) (.slice Ao123 t141.length co123)) (fun _ hk => hk.2) (.slice Ao124 t144.length co124)) (fun _ h_ => h_.1)))) k_ hk, Kd.fresh' (Kd.R_lt (by (with_reducible repeat (first | apply Kd.R_alloc | apply Kd.R_drewN | apply Kd.R_drew)); exact (Kd.R_mono (Kd.R_far (p := ⟨gb147, 5, none⟩) (Kd.R_far (p := ⟨gb147, 4, none⟩) (Kd.R_far (p := ⟨gb147, 3, none⟩) (Kd.R_far (p := ⟨gb147, 2, none⟩) (Kd.R_far (p := ⟨gb147, 1, none⟩) (Kd.R_far (p := ⟨gb147, 0, none⟩) (Kd.R_types HO140.out BK147.out (by decide)) (fun _ hk => hk.2) (.string t131)) (fun _ hk => hk.2) (.slice Ao120 t132.length co120)) (fun _ hk => hk.2) (.slice Ao121 t135.length co121)) (fun _ hk => hk.2) (.slice Ao122 t138.length co122)) (fun _ hk => hk.2) (.slice Ao123 t141.length co123)) (fun _ hk => hk.2) (.slice Ao124 t144.length co124)) (fun _ h_ => h_.1)))) k_ hk⟩)); (case aO => exact (by (with_reducible repeat (first | apply Kd.R_alloc | apply Kd.R_drewN | apply Kd.R_drew)); exact Kd.R_mono (Kd.R_far (p := ⟨gb147, 5, none⟩) (Kd.R_far (p := ⟨gb147, 4, none⟩) (Kd.R_far (p := ⟨gb147, 3, none⟩) (Kd.R_far (p := ⟨gb147, 2, none⟩) (Kd.R_far (p := ⟨gb147, 1, none⟩) (Kd.R_far (p := ⟨gb147, 0, none⟩) (Kd.R_types HO143.out BK147.out (by decide)) (fun _ hk => hk.2) (.string t131)) (fun _ hk => hk.2) (.slice Ao120 t132.length co120)) (fun _ hk => hk.2) (.slice Ao121 t135.length co121)) (fun _ hk => hk.2) (.slice Ao122 t138.length co122)) (fun _ hk => hk.2) (.slice Ao123 t141.length co123)) (fun _ hk => hk.2) (.slice Ao124 t144.length co124)) (fun _ hk => ⟨hk.1.1.2, ⟨hk.1.2, hk.1.1.1⟩⟩))); (case aS => exact (below_size (tg3 HB.out GE101.out GE121.out GE147.out))); (case aL => have := LMc71.out; omega); intro v149 w125 ho hb hg hat; rw [← Ny148.out] at ho; have n0_ := Aside0.mk (Kd.R_over' (by (with_reducible repeat (first | apply Kd.R_alloc | apply Kd.R_drewN | apply Kd.R_drew)); exact (Kd.R_mono (Kd.R_far (p := ⟨gb147, 5, none⟩) (Kd.R_far (p := ⟨gb147, 4, none⟩) (Kd.R_far (p := ⟨gb147, 3, none⟩) (Kd.R_far (p := ⟨gb147, 2, none⟩) (Kd.R_far (p := ⟨gb147, 1, none⟩) (Kd.R_far (p := ⟨gb147, 0, none⟩) (Kd.R_types HO_122001.out BK147.out (by decide)) (fun _ hk => hk.2) (.string t131)) (fun _ hk => hk.2) (.slice Ao120 t132.length co120)) (fun _ hk => hk.2) (.slice Ao121 t135.length co121)) (fun _ hk => hk.2) (.slice Ao122 t138.length co122)) (fun _ hk => hk.2) (.slice Ao123 t141.length co123)) (fun _ hk => hk.2) (.slice Ao124 t144.length co124)) (fun _ h_ => h_.1))) (Kd.R_typed (by (with_reducible repeat (first | apply Kd.R_alloc | apply Kd.R_drewN | apply Kd.R_drew)); exact (Kd.R_mono (Kd.R_far (p := ⟨gb147, 5, none⟩) (Kd.R_far (p := ⟨gb147, 4, none⟩) (Kd.R_far (p := ⟨gb147, 3, none⟩) (Kd.R_far (p := ⟨gb147, 2, none⟩) (Kd.R_far (p := ⟨gb147, 1, none⟩) (Kd.R_far (p := ⟨gb147, 0, none⟩) (Kd.R_types HO143.out BK147.out (by decide)) (fun _ hk => hk.2) (.string t131)) (fun _ hk => hk.2) (.slice Ao120 t132.length co120)) (fun _ hk => hk.2) (.slice Ao121 t135.length co121)) (fun _ hk => hk.2) (.slice Ao122 t138.length co122)) (fun _ hk => hk.2) (.slice Ao123 t141.length co123)) (fun _ hk => hk.2) (.slice Ao124 t144.length co124)) (fun _ h_ => h_.1)))) (by decide) hg); have n1_ := Aside0.mk (Kd.R_over' (by (with_reducible repeat (first | apply Kd.R_alloc | apply Kd.R_drewN | apply Kd.R_drew)); exact (Kd.R_mono (Kd.R_far (p := ⟨gb147, 5, none⟩) (Kd.R_far (p := ⟨gb147, 4, none⟩) (Kd.R_far (p := ⟨gb147, 3, none⟩) (Kd.R_far (p := ⟨gb147, 2, none⟩) (Kd.R_far (p := ⟨gb147, 1, none⟩) (Kd.R_far (p := ⟨gb147, 0, none⟩) (Kd.R_types HO_122002.out BK147.out (by decide)) (fun _ hk => hk.2) (.string t131)) (fun _ hk => hk.2) (.slice Ao120 t132.length co120)) (fun _ hk => hk.2) (.slice Ao121 t135.length co121)) (fun _ hk => hk.2) (.slice Ao122 t138.length co122)) (fun _ hk => hk.2) (.slice Ao123 t141.length co123)) (fun _ hk => hk.2) (.slice Ao124 t144.length co124)) (fun _ h_ => h_.1))) (Kd.R_typed (by (with_reducible repeat (first | apply Kd.R_alloc | apply Kd.R_drewN | apply Kd.R_drew)); exact (Kd.R_mono (Kd.R_far (p := ⟨gb147, 5, none⟩) (Kd.R_far (p := ⟨gb147, 4, none⟩) (Kd.R_far (p := ⟨gb147, 3, none⟩) (Kd.R_far (p := ⟨gb147, 2, none⟩) (Kd.R_far (p := ⟨gb147, 1, none⟩) (Kd.R_far (p := ⟨gb147, 0, none⟩) (Kd.R_types HO143.out BK147.out (by decide)) (fun _ hk => hk.2) (.string t131)) (fun _ hk => hk.2) (.slice Ao120 t132.length co120)) (fun _ hk => hk.2) (.slice Ao121 t135.length co121)) (fun _ hk => hk.2) (.slice Ao122 t138.length co122)) (fun _ hk => hk.2) (.slice Ao123 t141.length co123)) (fun _ hk => hk.2) (.slice Ao124 t144.length co124)) (fun _ h_ => h_.1)))) (by decide) hg); have n2_ := Aside0.mk (Kd.R_after (ok := (fun k_ => some k_ ≠ (.slice Ao28 t115.length co28 : Value).ownBlock ∧ some k_ ≠ (.slice Ao122 t138.length co122 : Value).ownBlock)) (by (with_reducible repeat (first | apply Kd.R_alloc | apply Kd.R_drewN | apply Kd.R_drew)); exact Kd.R_mono (Kd.R_far (p := ⟨gb147, 5, none⟩) (Kd.R_far (p := ⟨gb147, 4, none⟩) (Kd.R_far (p := ⟨gb147, 3, none⟩) (Kd.R_far (p := ⟨gb147, 2, none⟩) (Kd.R_far (p := ⟨gb147, 1, none⟩) (Kd.R_far (p := ⟨gb147, 0, none⟩) (Kd.R_types HO_122003.out BK147.out (by decide)) (fun _ hk => hk.2) (.string t131)) (fun _ hk => hk.2) (.slice Ao120 t132.length co120)) (fun _ hk => hk.2) (.slice Ao121 t135.length co121)) (fun _ hk => hk.2) (.slice Ao122 t138.length co122)) (fun _ hk => hk.2) (.slice Ao123 t141.length co123)) (fun _ hk => hk.2) (.slice Ao124 t144.length co124)) (fun _ hk => ⟨⟨hk.1.1.1, hk.1.1.2⟩, hk.1.2⟩)) hg hat); have n3_ := Aside0.mk (Kd.R_after (ok := (fun k_ => some k_ ≠ (.slice Ao27 t112.length co27 : Value).ownBlock ∧ some k_ ≠ (.slice Ao122 t138.length co122 : Value).ownBlock)) (by (with_reducible repeat (first | apply Kd.R_alloc | apply Kd.R_drewN | apply Kd.R_drew)); exact Kd.R_mono (Kd.R_far (p := ⟨gb147, 5, none⟩) (Kd.R_far (p := ⟨gb147, 4, none⟩) (Kd.R_far (p := ⟨gb147, 3, none⟩) (Kd.R_far (p := ⟨gb147, 2, none⟩) (Kd.R_far (p := ⟨gb147, 1, none⟩) (Kd.R_far (p := ⟨gb147, 0, none⟩) (Kd.R_types HO_122004.out BK147.out (by decide)) (fun _ hk => hk.2) (.string t131)) (fun _ hk => hk.2) (.slice Ao120 t132.length co120)) (fun _ hk => hk.2) (.slice Ao121 t135.length co121)) (fun _ hk => hk.2) (.slice Ao122 t138.length co122)) (fun _ hk => hk.2) (.slice Ao123 t141.length co123)) (fun _ hk => hk.2) (.slice Ao124 t144.length co124)) (fun _ hk => ⟨⟨hk.1.1.1, hk.1.1.2⟩, hk.1.2⟩)) hg hat); have n4_ := Aside0.mk (Kd.R_over' (by (with_reducible repeat (first | apply Kd.R_alloc | apply Kd.R_drewN | apply Kd.R_drew)); exact (Kd.R_mono (Kd.R_far (p := ⟨gb147, 5, none⟩) (Kd.R_far (p := ⟨gb147, 4, none⟩) (Kd.R_far (p := ⟨gb147, 3, none⟩) (Kd.R_far (p := ⟨gb147, 2, none⟩) (Kd.R_far (p := ⟨gb147, 1, none⟩) (Kd.R_far (p := ⟨gb147, 0, none⟩) (Kd.R_types HO_122005.out BK147.out (by decide)) (fun _ hk => hk.2) (.string t131)) (fun _ hk => hk.2) (.slice Ao120 t132.length co120)) (fun _ hk => hk.2) (.slice Ao121 t135.length co121)) (fun _ hk => hk.2) (.slice Ao122 t138.length co122)) (fun _ hk => hk.2) (.slice Ao123 t141.length co123)) (fun _ hk => hk.2) (.slice Ao124 t144.length co124)) (fun _ h_ => h_.1))) (Kd.R_typed (by (with_reducible repeat (first | apply Kd.R_alloc | apply Kd.R_drewN | apply Kd.R_drew)); exact (Kd.R_mono (Kd.R_far (p := ⟨gb147, 5, none⟩) (Kd.R_far (p := ⟨gb147, 4, none⟩) (Kd.R_far (p := ⟨gb147, 3, none⟩) (Kd.R_far (p := ⟨gb147, 2, none⟩) (Kd.R_far (p := ⟨gb147, 1, none⟩) (Kd.R_far (p := ⟨gb147, 0, none⟩) (Kd.R_types HO143.out BK147.out (by decide)) (fun _ hk => hk.2) (.string t131)) (fun _ hk => hk.2) (.slice Ao120 t132.length co120)) (fun _ hk => hk.2) (.slice Ao121 t135.length co121)) (fun _ hk => hk.2) (.slice Ao122 t138.length co122)) (fun _ hk => hk.2) (.slice Ao123 t141.length co123)) (fun _ hk => hk.2) (.slice Ao124 t144.length co124)) (fun _ h_ => h_.1)))) (by decide) hg); have n5_ := Aside0.mk (blk_grown (g := gb101) (o := .cells #[.string a0_0, .slice A0_1 l0_1.length c0_1, .slice A0_2 l0_2.length c0_2, .slice A0_3 l0_3.length c0_3, .slice A0_4 l0_4.length c0_4, .slice A0_5 l0_5.length c0_5] 26 (0, 0)) (by (with_reducible repeat (first | refine blk_drewN ?_ _ | refine blk_drew ?_ | refine blk_alloc ?_ _)); refine blk_far ?_ NB101_147.out _; (with_reducible repeat (first | refine blk_drewN ?_ _ | refine blk_drew ?_ | refine blk_alloc ?_ _)); refine blk_far ?_ NB101_147.out _; (with_reducible repeat (first | refine blk_drewN ?_ _ | refine blk_drew ?_ | refine blk_alloc ?_ _)); refine blk_far ?_ NB101_147.out _; (with_reducible repeat (first | refine blk_drewN ?_ _ | refine blk_drew ?_ | refine blk_alloc ?_ _)); refine blk_far ?_ NB101_147.out _; (with_reducible repeat (first | refine blk_drewN ?_ _ | refine blk_drew ?_ | refine blk_alloc ?_ _)); refine blk_far ?_ NB101_147.out _; (with_reducible repeat (first | refine blk_drewN ?_ _ | refine blk_drew ?_ | refine blk_alloc ?_ _)); refine blk_far ?_ NB101_147.out _; (with_reducible repeat (first | refine blk_drewN ?_ _ | refine blk_drew ?_ | refine blk_alloc ?_ _)); exact BK101.out) hg (Kd.R_ne HO143.out BK101.out (by decide))); have n6_ := Aside0.mk (blk_grown (g := gb121) (o := .cells #[.string t105, .slice Ao25 t106.length co25, .slice Ao31 y122.length co31, .slice Ao27 t112.length co27, .slice Ao28 t115.length co28, .slice Ao29 t118.length co29] 26 (0, 0)) (by (with_reducible repeat (first | refine blk_drewN ?_ _ | refine blk_drew ?_ | refine blk_alloc ?_ _)); refine blk_far ?_ NB121_147.out _; (with_reducible repeat (first | refine blk_drewN ?_ _ | refine blk_drew ?_ | refine blk_alloc ?_ _)); refine blk_far ?_ NB121_147.out _; (with_reducible repeat (first | refine blk_drewN ?_ _ | refine blk_drew ?_ | refine blk_alloc ?_ _)); refine blk_far ?_ NB121_147.out _; (with_reducible repeat (first | refine blk_drewN ?_ _ | refine blk_drew ?_ | refine blk_alloc ?_ _)); refine blk_far ?_ NB121_147.out _; (with_reducible repeat (first | refine blk_drewN ?_ _ | refine blk_drew ?_ | refine blk_alloc ?_ _)); refine blk_far ?_ NB121_147.out _; (with_reducible repeat (first | refine blk_drewN ?_ _ | refine blk_drew ?_ | refine blk_alloc ?_ _)); refine blk_far ?_ NB121_147.out _; (with_reducible repeat (first | refine blk_drewN ?_ _ | refine blk_drew ?_ | refine blk_alloc ?_ _)); exact BK121.out) hg (Kd.R_ne HO143.out BK121.out (by decide))); have n7_ := Aside0.mk (Kd.R_over' (by (with_reducible repeat (first | apply Kd.R_alloc | apply Kd.R_drewN | apply Kd.R_drew)); exact (Kd.R_mono (Kd.R_far (p := ⟨gb147, 5, none⟩) (Kd.R_far (p := ⟨gb147, 4, none⟩) (Kd.R_far (p := ⟨gb147, 3, none⟩) (Kd.R_far (p := ⟨gb147, 2, none⟩) (Kd.R_far (p := ⟨gb147, 1, none⟩) (Kd.R_far (p := ⟨gb147, 0, none⟩) (Kd.R_types HO134.out BK147.out (by decide)) (fun _ hk => hk.2) (.string t131)) (fun _ hk => hk.2) (.slice Ao120 t132.length co120)) (fun _ hk => hk.2) (.slice Ao121 t135.length co121)) (fun _ hk => hk.2) (.slice Ao122 t138.length co122)) (fun _ hk => hk.2) (.slice Ao123 t141.length co123)) (fun _ hk => hk.2) (.slice Ao124 t144.length co124)) (fun _ h_ => h_.1))) (Kd.R_typed (by (with_reducible repeat (first | apply Kd.R_alloc | apply Kd.R_drewN | apply Kd.R_drew)); exact (Kd.R_mono (Kd.R_far (p := ⟨gb147, 5, none⟩) (Kd.R_far (p := ⟨gb147, 4, none⟩) (Kd.R_far (p := ⟨gb147, 3, none⟩) (Kd.R_far (p := ⟨gb147, 2, none⟩) (Kd.R_far (p := ⟨gb147, 1, none⟩) (Kd.R_far (p := ⟨gb147, 0, none⟩) (Kd.R_types HO143.out BK147.out (by decide)) (fun _ hk => hk.2) (.string t131)) (fun _ hk => hk.2) (.slice Ao120 t132.length co120)) (fun _ hk => hk.2) (.slice Ao121 t135.length co121)) (fun _ hk => hk.2) (.slice Ao122 t138.length co122)) (fun _ hk => hk.2) (.slice Ao123 t141.length co123)) (fun _ hk => hk.2) (.slice Ao124 t144.length co124)) (fun _ h_ => h_.1)))) (by decide) hg); have n8_ := Aside0.mk (Kd.R_over' (by (with_reducible repeat (first | apply Kd.R_alloc | apply Kd.R_drewN | apply Kd.R_drew)); exact (Kd.R_mono (Kd.R_far (p := ⟨gb147, 5, none⟩) (Kd.R_far (p := ⟨gb147, 4, none⟩) (Kd.R_far (p := ⟨gb147, 3, none⟩) (Kd.R_far (p := ⟨gb147, 2, none⟩) (Kd.R_far (p := ⟨gb147, 1, none⟩) (Kd.R_far (p := ⟨gb147, 0, none⟩) (Kd.R_types HO137.out BK147.out (by decide)) (fun _ hk => hk.2) (.string t131)) (fun _ hk => hk.2) (.slice Ao120 t132.length co120)) (fun _ hk => hk.2) (.slice Ao121 t135.length co121)) (fun _ hk => hk.2) (.slice Ao122 t138.length co122)) (fun _ hk => hk.2) (.slice Ao123 t141.length co123)) (fun _ hk => hk.2) (.slice Ao124 t144.length co124)) (fun _ h_ => h_.1))) (Kd.R_typed (by (with_reducible repeat (first | apply Kd.R_alloc | apply Kd.R_drewN | apply Kd.R_drew)); exact (Kd.R_mono (Kd.R_far (p := ⟨gb147, 5, none⟩) (Kd.R_far (p := ⟨gb147, 4, none⟩) (Kd.R_far (p := ⟨gb147, 3, none⟩) (Kd.R_far (p := ⟨gb147, 2, none⟩) (Kd.R_far (p := ⟨gb147, 1, none⟩) (Kd.R_far (p := ⟨gb147, 0, none⟩) (Kd.R_types HO143.out BK147.out (by decide)) (fun _ hk => hk.2) (.string t131)) (fun _ hk => hk.2) (.slice Ao120 t132.length co120)) (fun _ hk => hk.2) (.slice Ao121 t135.length co121)) (fun _ hk => hk.2) (.slice Ao122 t138.length co122)) (fun _ hk => hk.2) (.slice Ao123 t141.length co123)) (fun _ hk => hk.2) (.slice Ao124 t144.length co124)) (fun _ h_ => h_.1)))) (by decide) hg); have n9_ := Aside0.mk (Kd.R_after (ok := (fun k_ => some k_ ≠ (.slice Ao27 t112.length co27 : Value).ownBlock ∧ some k_ ≠ (.slice Ao28 t115.length co28 : Value).ownBlock)) (by (with_reducible repeat (first | apply Kd.R_alloc | apply Kd.R_drewN | apply Kd.R_drew)); exact Kd.R_mono (Kd.R_far (p := ⟨gb147, 5, none⟩) (Kd.R_far (p := ⟨gb147, 4, none⟩) (Kd.R_far (p := ⟨gb147, 3, none⟩) (Kd.R_far (p := ⟨gb147, 2, none⟩) (Kd.R_far (p := ⟨gb147, 1, none⟩) (Kd.R_far (p := ⟨gb147, 0, none⟩) (Kd.R_types HO140.out BK147.out (by decide)) (fun _ hk => hk.2) (.string t131)) (fun _ hk => hk.2) (.slice Ao120 t132.length co120)) (fun _ hk => hk.2) (.slice Ao121 t135.length co121)) (fun _ hk => hk.2) (.slice Ao122 t138.length co122)) (fun _ hk => hk.2) (.slice Ao123 t141.length co123)) (fun _ hk => hk.2) (.slice Ao124 t144.length co124)) (fun _ hk => ⟨⟨hk.1.1.2, hk.1.2⟩, hk.1.1.1⟩)) hg hat); have n10_ := Aside0.mk (Kd.R_over' (by (with_reducible repeat (first | apply Kd.R_alloc | apply Kd.R_drewN | apply Kd.R_drew)); exact (Kd.R_mono (Kd.R_far (p := ⟨gb147, 5, none⟩) (Kd.R_far (p := ⟨gb147, 4, none⟩) (Kd.R_far (p := ⟨gb147, 3, none⟩) (Kd.R_far (p := ⟨gb147, 2, none⟩) (Kd.R_far (p := ⟨gb147, 1, none⟩) (Kd.R_far (p := ⟨gb147, 0, none⟩) (Kd.R_types HO146.out BK147.out (by decide)) (fun _ hk => hk.2) (.string t131)) (fun _ hk => hk.2) (.slice Ao120 t132.length co120)) (fun _ hk => hk.2) (.slice Ao121 t135.length co121)) (fun _ hk => hk.2) (.slice Ao122 t138.length co122)) (fun _ hk => hk.2) (.slice Ao123 t141.length co123)) (fun _ hk => hk.2) (.slice Ao124 t144.length co124)) (fun _ h_ => h_.1))) (Kd.R_typed (by (with_reducible repeat (first | apply Kd.R_alloc | apply Kd.R_drewN | apply Kd.R_drew)); exact (Kd.R_mono (Kd.R_far (p := ⟨gb147, 5, none⟩) (Kd.R_far (p := ⟨gb147, 4, none⟩) (Kd.R_far (p := ⟨gb147, 3, none⟩) (Kd.R_far (p := ⟨gb147, 2, none⟩) (Kd.R_far (p := ⟨gb147, 1, none⟩) (Kd.R_far (p := ⟨gb147, 0, none⟩) (Kd.R_types HO143.out BK147.out (by decide)) (fun _ hk => hk.2) (.string t131)) (fun _ hk => hk.2) (.slice Ao120 t132.length co120)) (fun _ hk => hk.2) (.slice Ao121 t135.length co121)) (fun _ hk => hk.2) (.slice Ao122 t138.length co122)) (fun _ hk => hk.2) (.slice Ao123 t141.length co123)) (fun _ hk => hk.2) (.slice Ao124 t144.length co124)) (fun _ h_ => h_.1)))) (by decide) hg); have n11_ := Aside0.mk (blk_grown (g := gb147) (o := .cells #[.string t131, .slice Ao120 t132.length co120, .slice Ao121 t135.length co121, .slice Ao122 t138.length co122, .slice Ao123 t141.length co123, .slice Ao124 t144.length co124] 26 (0, 0)) (by (with_reducible repeat (first | refine blk_drewN ?_ _ | refine blk_drew ?_ | refine blk_alloc ?_ _)); refine blk_put (cs := #[.string t131, .slice Ao120 t132.length co120, .slice Ao121 t135.length co121, .slice Ao122 t138.length co122, .slice Ao123 t141.length co123, .slice none 0 0]) ?_ 5 _ rfl; (with_reducible repeat (first | refine blk_drewN ?_ _ | refine blk_drew ?_ | refine blk_alloc ?_ _)); refine blk_put (cs := #[.string t131, .slice Ao120 t132.length co120, .slice Ao121 t135.length co121, .slice Ao122 t138.length co122, .slice none 0 0, .slice none 0 0]) ?_ 4 _ rfl; (with_reducible repeat (first | refine blk_drewN ?_ _ | refine blk_drew ?_ | refine blk_alloc ?_ _)); refine blk_put (cs := #[.string t131, .slice Ao120 t132.length co120, .slice Ao121 t135.length co121, .slice none 0 0, .slice none 0 0, .slice none 0 0]) ?_ 3 _ rfl; (with_reducible repeat (first | refine blk_drewN ?_ _ | refine blk_drew ?_ | refine blk_alloc ?_ _)); refine blk_put (cs := #[.string t131, .slice Ao120 t132.length co120, .slice none 0 0, .slice none 0 0, .slice none 0 0, .slice none 0 0]) ?_ 2 _ rfl; (with_reducible repeat (first | refine blk_drewN ?_ _ | refine blk_drew ?_ | refine blk_alloc ?_ _)); refine blk_put (cs := #[.string t131, .slice none 0 0, .slice none 0 0, .slice none 0 0, .slice none 0 0, .slice none 0 0]) ?_ 1 _ rfl; (with_reducible repeat (first | refine blk_drewN ?_ _ | refine blk_drew ?_ | refine blk_alloc ?_ _)); refine blk_put (cs := #[.string (⟨#[]⟩ : ByteArray), .slice none 0 0, .slice none 0 0, .slice none 0 0, .slice none 0 0, .slice none 0 0]) ?_ 0 _ rfl; (with_reducible repeat (first | refine blk_drewN ?_ _ | refine blk_drew ?_ | refine blk_alloc ?_ _)); exact BK147.out) hg (Kd.R_ne HO143.out BK147.out (by decide))); have n12_ := Aside0.mk (hb); have n13_ := Aside0.mk (ho); clear HO_122001; clear HO_122002; clear HO_122003; clear HO_122004; clear HO_122005; clear BK101; clear BK121; clear HO134; clear HO137; clear HO140; clear HO146; clear BK147; clear HB; clear HO143; have HO_122001 := n0_; have HO_122002 := n1_; have HO_122003 := n2_; have HO_122004 := n3_; have HO_122005 := n4_; have BK101 := n5_; have BK121 := n6_; have HO134 := n7_; have HO137 := n8_; have HO140 := n9_; have HO146 := n10_; have BK147 := n11_; have HB := n12_; have HO150 := n13_; clear n0_ n1_ n2_ n3_ n4_ n5_ n6_ n7_ n8_ n9_ n10_ n11_ n12_ n13_; clear ho hb hg hat; obtain ⟨Ao126, co126, eo126⟩ := Kd.R_slice HO150.out; subst eo126; have hcz127_0 := cz BK147.out 0 (.string t131); have hcz127_1 := cz BK147.out 1 (.slice Ao120 t132.length co120); have hcz127_2 := cz BK147.out 2 (.slice Ao121 t135.length co121); have hcz127_3 := cz BK147.out 3 (.slice Ao122 t138.length co122); have hcz127_4 := cz BK147.out 4 (.slice Ao123 t141.length co123); have hcz127_5 := cz BK147.out 5 (.slice Ao124 t144.length co124); have hfz127_0 := blk_frozen BK147.out 0; have hfz127_1 := blk_frozen BK147.out 1; have hfz127_2 := blk_frozen BK147.out 2; have hfz127_3 := blk_frozen BK147.out 3; have hfz127_4 := blk_frozen BK147.out 4; have hfz127_5 := blk_frozen BK147.out 5))
               have n0_ : Aside0 (Kd.R Kd.string 9 (w125.setCell ⟨gb147, 4, none⟩ (.slice Ao126 y148.length co126)) w.heap.size (fun k_ => some k_ ≠ (.slice Ao31 y122.length co31 : Value).ownBlock ∧ some k_ ≠ (.slice Ao120 t132.length co120 : Value).ownBlock ∧ some k_ ≠ (.slice Ao121 t135.length co121 : Value).ownBlock) (.slice Ao25 t106.length co25) t106) := ⟨by (with_reducible repeat (first | apply Kd.R_alloc | apply Kd.R_drewN | apply Kd.R_drew)); exact Kd.R_mono (Kd.R_far (p := ⟨gb147, 4, none⟩) (Kd.R_types HO_122001.out BK147.out (by decide)) (fun _ hk => hk.2) (.slice Ao126 y148.length co126)) (fun _ hk => ⟨hk.1.1.1, ⟨hk.1.1.2, hk.1.2⟩⟩)⟩
               have n1_ : Aside0 (Kd.R Kd.string 9 (w125.setCell ⟨gb147, 4, none⟩ (.slice Ao126 y148.length co126)) w.heap.size (fun k_ => some k_ ≠ (.slice Ao25 t106.length co25 : Value).ownBlock ∧ some k_ ≠ (.slice Ao120 t132.length co120 : Value).ownBlock ∧ some k_ ≠ (.slice Ao121 t135.length co121 : Value).ownBlock) (.slice Ao31 y122.length co31) y122) := ⟨by (with_reducible repeat (first | apply Kd.R_alloc | apply Kd.R_drewN | apply Kd.R_drew)); exact Kd.R_mono (Kd.R_far (p := ⟨gb147, 4, none⟩) (Kd.R_types HO_122002.out BK147.out (by decide)) (fun _ hk => hk.2) (.slice Ao126 y148.length co126)) (fun _ hk => ⟨hk.1.1.1, ⟨hk.1.1.2, hk.1.2⟩⟩)⟩
               have n2_ : Aside0 (Kd.R (Kd.int .u32) 44 (w125.setCell ⟨gb147, 4, none⟩ (.slice Ao126 y148.length co126)) w.heap.size (fun k_ => some k_ ≠ (.slice Ao28 t115.length co28 : Value).ownBlock ∧ some k_ ≠ (.slice Ao122 t138.length co122 : Value).ownBlock ∧ some k_ ≠ (.slice Ao126 y148.length co126 : Value).ownBlock) (.slice Ao27 t112.length co27) t112) := ⟨by (with_reducible repeat (first | apply Kd.R_alloc | apply Kd.R_drewN | apply Kd.R_drew)); exact Kd.R_mono (Kd.R_far (p := ⟨gb147, 4, none⟩) (Kd.R_types HO_122003.out BK147.out (by decide)) (fun _ hk => hk.2) (.slice Ao126 y148.length co126)) (fun _ hk => ⟨hk.1.1.1, ⟨hk.1.1.2, hk.1.2⟩⟩)⟩
               have n3_ : Aside0 (Kd.R (Kd.int .u32) 44 (w125.setCell ⟨gb147, 4, none⟩ (.slice Ao126 y148.length co126)) w.heap.size (fun k_ => some k_ ≠ (.slice Ao27 t112.length co27 : Value).ownBlock ∧ some k_ ≠ (.slice Ao122 t138.length co122 : Value).ownBlock ∧ some k_ ≠ (.slice Ao126 y148.length co126 : Value).ownBlock) (.slice Ao28 t115.length co28) t115) := ⟨by (with_reducible repeat (first | apply Kd.R_alloc | apply Kd.R_drewN | apply Kd.R_drew)); exact Kd.R_mono (Kd.R_far (p := ⟨gb147, 4, none⟩) (Kd.R_types HO_122004.out BK147.out (by decide)) (fun _ hk => hk.2) (.slice Ao126 y148.length co126)) (fun _ hk => ⟨hk.1.1.1, ⟨hk.1.1.2, hk.1.2⟩⟩)⟩
               have n4_ : Aside0 (Kd.R k43 43 (w125.setCell ⟨gb147, 4, none⟩ (.slice Ao126 y148.length co126)) w.heap.size (fun k_ => some k_ ≠ (.slice Ao124 t144.length co124 : Value).ownBlock) (.slice Ao29 t118.length co29) t118) := ⟨by (with_reducible repeat (first | apply Kd.R_alloc | apply Kd.R_drewN | apply Kd.R_drew)); exact Kd.R_mono (Kd.R_far (p := ⟨gb147, 4, none⟩) (Kd.R_types HO_122005.out BK147.out (by decide)) (fun _ hk => hk.2) (.slice Ao126 y148.length co126)) (fun _ hk => hk.1.2)⟩
               have n5_ : Aside0 (Kd.R Kd.string 9 (w125.setCell ⟨gb147, 4, none⟩ (.slice Ao126 y148.length co126)) w.heap.size (fun k_ => some k_ ≠ (.slice Ao25 t106.length co25 : Value).ownBlock ∧ some k_ ≠ (.slice Ao31 y122.length co31 : Value).ownBlock ∧ some k_ ≠ (.slice Ao121 t135.length co121 : Value).ownBlock) (.slice Ao120 t132.length co120) t132) := ⟨by (with_reducible repeat (first | apply Kd.R_alloc | apply Kd.R_drewN | apply Kd.R_drew)); exact Kd.R_mono (Kd.R_far (p := ⟨gb147, 4, none⟩) (Kd.R_types HO134.out BK147.out (by decide)) (fun _ hk => hk.2) (.slice Ao126 y148.length co126)) (fun _ hk => ⟨hk.1.1.2, ⟨hk.1.2, hk.1.1.1⟩⟩)⟩
               have n6_ : Aside0 (Kd.R Kd.string 9 (w125.setCell ⟨gb147, 4, none⟩ (.slice Ao126 y148.length co126)) w.heap.size (fun k_ => some k_ ≠ (.slice Ao25 t106.length co25 : Value).ownBlock ∧ some k_ ≠ (.slice Ao31 y122.length co31 : Value).ownBlock ∧ some k_ ≠ (.slice Ao120 t132.length co120 : Value).ownBlock) (.slice Ao121 t135.length co121) t135) := ⟨by (with_reducible repeat (first | apply Kd.R_alloc | apply Kd.R_drewN | apply Kd.R_drew)); exact Kd.R_mono (Kd.R_far (p := ⟨gb147, 4, none⟩) (Kd.R_types HO137.out BK147.out (by decide)) (fun _ hk => hk.2) (.slice Ao126 y148.length co126)) (fun _ hk => ⟨hk.1.1.2, ⟨hk.1.2, hk.1.1.1⟩⟩)⟩
               have n7_ : Aside0 (Kd.R (Kd.int .u32) 44 (w125.setCell ⟨gb147, 4, none⟩ (.slice Ao126 y148.length co126)) w.heap.size (fun k_ => some k_ ≠ (.slice Ao27 t112.length co27 : Value).ownBlock ∧ some k_ ≠ (.slice Ao28 t115.length co28 : Value).ownBlock ∧ some k_ ≠ (.slice Ao126 y148.length co126 : Value).ownBlock) (.slice Ao122 t138.length co122) t138) := ⟨by (with_reducible repeat (first | apply Kd.R_alloc | apply Kd.R_drewN | apply Kd.R_drew)); exact Kd.R_mono (Kd.R_far (p := ⟨gb147, 4, none⟩) (Kd.R_types HO140.out BK147.out (by decide)) (fun _ hk => hk.2) (.slice Ao126 y148.length co126)) (fun _ hk => ⟨hk.1.1.1, ⟨hk.1.1.2, hk.1.2⟩⟩)⟩
               have n8_ : Aside0 (Kd.R k43 43 (w125.setCell ⟨gb147, 4, none⟩ (.slice Ao126 y148.length co126)) w.heap.size (fun k_ => some k_ ≠ (.slice Ao29 t118.length co29 : Value).ownBlock) (.slice Ao124 t144.length co124) t144) := ⟨by (with_reducible repeat (first | apply Kd.R_alloc | apply Kd.R_drewN | apply Kd.R_drew)); exact Kd.R_mono (Kd.R_far (p := ⟨gb147, 4, none⟩) (Kd.R_types HO146.out BK147.out (by decide)) (fun _ hk => hk.2) (.slice Ao126 y148.length co126)) (fun _ hk => hk.1.2)⟩
               have n9_ : Aside0 (Kd.R (Kd.int .u32) 44 (w125.setCell ⟨gb147, 4, none⟩ (.slice Ao126 y148.length co126)) w.heap.size (fun k_ => some k_ ≠ (.slice Ao27 t112.length co27 : Value).ownBlock ∧ some k_ ≠ (.slice Ao28 t115.length co28 : Value).ownBlock ∧ some k_ ≠ (.slice Ao122 t138.length co122 : Value).ownBlock) (.slice Ao126 y148.length co126) y148) := ⟨by (with_reducible repeat (first | apply Kd.R_alloc | apply Kd.R_drewN | apply Kd.R_drew)); exact Kd.R_mono (Kd.R_far (p := ⟨gb147, 4, none⟩) (Kd.R_types HO150.out BK147.out (by decide)) (fun _ hk => hk.2) (.slice Ao126 y148.length co126)) (fun _ hk => ⟨hk.1.1, ⟨hk.1.2.1, hk.1.2.2⟩⟩)⟩
               have n10_ : Aside0 ((w125.setCell ⟨gb147, 4, none⟩ (.slice Ao126 y148.length co126)).heap[gb101]? = some (.cells #[.string a0_0, .slice A0_1 l0_1.length c0_1, .slice A0_2 l0_2.length c0_2, .slice A0_3 l0_3.length c0_3, .slice A0_4 l0_4.length c0_4, .slice A0_5 l0_5.length c0_5] 26 (0, 0))) := ⟨by (with_reducible repeat (first | refine blk_drewN ?_ _ | refine blk_drew ?_ | refine blk_alloc ?_ _)); refine blk_far ?_ NB101_147.out _; (with_reducible repeat (first | refine blk_drewN ?_ _ | refine blk_drew ?_ | refine blk_alloc ?_ _)); exact BK101.out⟩
               have n11_ : Aside0 ((w125.setCell ⟨gb147, 4, none⟩ (.slice Ao126 y148.length co126)).heap[gb121]? = some (.cells #[.string t105, .slice Ao25 t106.length co25, .slice Ao31 y122.length co31, .slice Ao27 t112.length co27, .slice Ao28 t115.length co28, .slice Ao29 t118.length co29] 26 (0, 0))) := ⟨by (with_reducible repeat (first | refine blk_drewN ?_ _ | refine blk_drew ?_ | refine blk_alloc ?_ _)); refine blk_far ?_ NB121_147.out _; (with_reducible repeat (first | refine blk_drewN ?_ _ | refine blk_drew ?_ | refine blk_alloc ?_ _)); exact BK121.out⟩
               have n12_ : Aside0 ((w125.setCell ⟨gb147, 4, none⟩ (.slice Ao126 y148.length co126)).heap[gb147]? = some (.cells #[.string t131, .slice Ao120 t132.length co120, .slice Ao121 t135.length co121, .slice Ao122 t138.length co122, .slice Ao126 y148.length co126, .slice Ao124 t144.length co124] 26 (0, 0))) := ⟨by (with_reducible repeat (first | refine blk_drewN ?_ _ | refine blk_drew ?_ | refine blk_alloc ?_ _)); refine blk_put (cs := #[.string t131, .slice Ao120 t132.length co120, .slice Ao121 t135.length co121, .slice Ao122 t138.length co122, .slice Ao123 t141.length co123, .slice Ao124 t144.length co124]) ?_ 4 _ rfl; (with_reducible repeat (first | refine blk_drewN ?_ _ | refine blk_drew ?_ | refine blk_alloc ?_ _)); exact BK147.out⟩
               have n13_ : Aside0 (Below w.heap.size w (w125.setCell ⟨gb147, 4, none⟩ (.slice Ao126 y148.length co126))) := ⟨tg3 HB.out GE101.out GE121.out GE147.out⟩
               (try clear HO_122001)
               (try clear HO_122002)
               (try clear HO_122003)
               (try clear HO_122004)
               (try clear HO_122005)
               (try clear HO134)
               (try clear HO137)
               (try clear HO140)
               (try clear HO146)
               (try clear HO150)
               (try clear BK101)
               (try clear BK121)
               (try clear BK147)
               (try clear HB)
               generalize (w125.setCell ⟨gb147, 4, none⟩ (.slice Ao126 y148.length co126)) = w128 at n0_ n1_ n2_ n3_ n4_ n5_ n6_ n7_ n8_ n9_ n10_ n11_ n12_ n13_ ⊢
               have HO_122001 := n0_
               have HO_122002 := n1_
               have HO_122003 := n2_
               have HO_122004 := n3_
               have HO_122005 := n4_
               have HO134 := n5_
               have HO137 := n6_
               have HO140 := n7_
               have HO146 := n8_
               have HO150 := n9_
               have BK101 := n10_
               have BK121 := n11_
               have BK147 := n12_
               have HB := n13_
               clear n0_ n1_ n2_ n3_ n4_ n5_ n6_ n7_ n8_ n9_ n10_ n11_ n12_ n13_
               replace HO_122001 := Aside0.mk (Kd.R_drew HO_122001.out)
               replace HO_122002 := Aside0.mk (Kd.R_drew HO_122002.out)
               replace HO_122003 := Aside0.mk (Kd.R_drew HO_122003.out)
               replace HO_122004 := Aside0.mk (Kd.R_drew HO_122004.out)
               replace HO_122005 := Aside0.mk (Kd.R_drew HO_122005.out)
               replace HO134 := Aside0.mk (Kd.R_drew HO134.out)
               replace HO137 := Aside0.mk (Kd.R_drew HO137.out)
               replace HO140 := Aside0.mk (Kd.R_drew HO140.out)
               replace HO146 := Aside0.mk (Kd.R_drew HO146.out)
               replace HO150 := Aside0.mk (Kd.R_drew HO150.out)
               replace BK101 := Aside0.mk (blk_drew BK101.out)
               replace BK121 := Aside0.mk (blk_drew BK121.out)
               replace BK147 := Aside0.mk (blk_drew BK147.out)
               replace HB := Aside0.mk (below_drew1 HB.out)
               refine start_ (n := 16) (S := fun w' => True) (ds := []) #[false, false, false, false, false, false, false, false, false, false, false, false, false, false, false, false] (by kernel_rfl) rfl rfl trivial (fun hHeld => ?_); refine with_tabW budwoodlaw11_ValidMore.tab19 budwoodlaw11_ValidMore.bits19 (fun HT_ HW_ => ?_)
               generalize w128.drew = w129 at HO_122001 HO_122002 HO_122003 HO_122004 HO_122005 HO134 HO137 HO140 HO146 HO150 BK101 BK121 BK147 HB hHeld ⊢
               refine pure_ (i := 0) (N := some 99) (v := ?_) (a' := ?_) #[true, false, false, false, false, false, false, false, false, false, false, false, false, false, false, false] rfl rfl (any_of HT_.out (by kernel_rfl)) (fun _ _ _ h => h) (Or.inl ⟨by rfl, ?_⟩) ?_ ?_
               rotate_left
               ·intro w'
                go_simp
                with_reducible rfl
               rotate_left
               ·simp only [Act.put, List.setIfInBounds_toArray, List.set_cons_zero, List.set_cons_succ, i64_w, i32_w]
                rfl
               refine pure_ (i := 1) (N := some 100) (v := ?_) (a' := ?_) #[true, true, false, false, false, false, false, false, false, false, false, false, false, false, false, false] rfl rfl (any_of HT_.out (by kernel_rfl)) (fun _ _ _ h => h) (Or.inl ⟨by rfl, ?_⟩) ?_ ?_
               rotate_left
               ·intro w'
                go_simp
                with_reducible rfl
               rotate_left
               ·simp only [Act.put, List.setIfInBounds_toArray, List.set_cons_zero, List.set_cons_succ, i64_w, i32_w]
                rfl
               refine pure_ (i := 2) (N := some 101) (v := ?_) (a' := ?_) #[true, true, true, false, false, false, false, false, false, false, false, false, false, false, false, false] rfl rfl (any_of HT_.out (by kernel_rfl)) (fun _ _ _ h => h) (Or.inl ⟨by rfl, ?_⟩) ?_ ?_
               rotate_left
               ·intro w'
                go_simp
                with_reducible rfl
               rotate_left
               ·simp only [Act.put, List.setIfInBounds_toArray, List.set_cons_zero, List.set_cons_succ, i64_w, i32_w]
                rfl
               refine pure_ (i := 3) (N := some 102) (v := undef) (a' := ?_) #[true, true, true, true, false, false, false, false, false, false, false, false, false, false, false, false] rfl rfl (any_of HT_.out (by kernel_rfl)) (fun _ _ _ h => h) (Or.inr ⟨by rfl, rfl⟩) ?_ ?_
               rotate_left
               ·simp only [Act.put, List.setIfInBounds_toArray, List.set_cons_zero, List.set_cons_succ, i64_w, i32_w]
                rfl
               refine pure_ (i := 4) (N := some 103) (v := undef) (a' := ?_) #[true, true, true, true, true, false, false, false, false, false, false, false, false, false, false, false] rfl rfl (any_of HT_.out (by kernel_rfl)) (fun _ _ _ h => h) (Or.inr ⟨by rfl, rfl⟩) ?_ ?_
               rotate_left
               ·simp only [Act.put, List.setIfInBounds_toArray, List.set_cons_zero, List.set_cons_succ, i64_w, i32_w]
                rfl
               refine pure_ (i := 5) (N := some 104) (v := undef) (a' := ?_) #[true, true, true, true, true, true, false, false, false, false, false, false, false, false, false, false] rfl rfl (any_of HT_.out (by kernel_rfl)) (fun _ _ _ h => h) (Or.inr ⟨by rfl, rfl⟩) ?_ ?_
               rotate_left
               ·simp only [Act.put, List.setIfInBounds_toArray, List.set_cons_zero, List.set_cons_succ, i64_w, i32_w]
                rfl
               refine pure_ (i := 6) (N := some 105) (v := undef) (a' := ?_) #[true, true, true, true, true, true, true, false, false, false, false, false, false, false, false, false] rfl rfl (any_of HT_.out (by kernel_rfl)) (fun _ _ _ h => h) (Or.inr ⟨by rfl, rfl⟩) ?_ ?_
               rotate_left
               ·simp only [Act.put, List.setIfInBounds_toArray, List.set_cons_zero, List.set_cons_succ, i64_w, i32_w]
                rfl
               refine pure_ (i := 7) (N := some 106) (v := undef) (a' := ?_) #[true, true, true, true, true, true, true, true, false, false, false, false, false, false, false, false] rfl rfl (any_of HT_.out (by kernel_rfl)) (fun _ _ _ h => h) (Or.inr ⟨by rfl, rfl⟩) ?_ ?_
               rotate_left
               ·simp only [Act.put, List.setIfInBounds_toArray, List.set_cons_zero, List.set_cons_succ, i64_w, i32_w]
                rfl
               refine pure_ (i := 8) (N := some 107) (v := undef) (a' := ?_) #[true, true, true, true, true, true, true, true, true, false, false, false, false, false, false, false] rfl rfl (any_of HT_.out (by kernel_rfl)) (fun _ _ _ h => h) (Or.inr ⟨by rfl, rfl⟩) ?_ ?_
               rotate_left
               ·simp only [Act.put, List.setIfInBounds_toArray, List.set_cons_zero, List.set_cons_succ, i64_w, i32_w]
                rfl
               refine pure_ (i := 9) (N := some 108) (v := undef) (a' := ?_) #[true, true, true, true, true, true, true, true, true, true, false, false, false, false, false, false] rfl rfl (any_of HT_.out (by kernel_rfl)) (fun _ _ _ h => h) (Or.inr ⟨by rfl, rfl⟩) ?_ ?_
               rotate_left
               ·simp only [Act.put, List.setIfInBounds_toArray, List.set_cons_zero, List.set_cons_succ, i64_w, i32_w]
                rfl
               refine pure_ (i := 10) (N := some 109) (v := undef) (a' := ?_) #[true, true, true, true, true, true, true, true, true, true, true, false, false, false, false, false] rfl rfl (any_of HT_.out (by kernel_rfl)) (fun _ _ _ h => h) (Or.inr ⟨by rfl, rfl⟩) ?_ ?_
               rotate_left
               ·simp only [Act.put, List.setIfInBounds_toArray, List.set_cons_zero, List.set_cons_succ, i64_w, i32_w]
                rfl
               refine pure_ (i := 11) (N := some 110) (v := ?_) (a' := ?_) #[true, true, true, true, true, true, true, true, true, true, true, true, false, false, false, false] rfl rfl (any_of HT_.out (by kernel_rfl)) (fun _ _ _ h => h) (Or.inl ⟨by rfl, ?_⟩) ?_ ?_
               rotate_left
               ·intro w'
                go_simp
                with_reducible rfl
               rotate_left
               ·simp only [Act.put, List.setIfInBounds_toArray, List.set_cons_zero, List.set_cons_succ, i64_w, i32_w]
                rfl
               refine pure_ (i := 12) (N := some 111) (v := ?_) (a' := ?_) #[true, true, true, true, true, true, true, true, true, true, true, true, true, false, false, false] rfl rfl (any_of HT_.out (by kernel_rfl)) (fun _ _ _ h => h) (Or.inl ⟨by rfl, ?_⟩) ?_ ?_
               rotate_left
               ·intro w'
                go_simp
                with_reducible rfl
               rotate_left
               ·simp only [Act.put, List.setIfInBounds_toArray, List.set_cons_zero, List.set_cons_succ, i64_w, i32_w]
                rfl
               refine pure_ (i := 13) (N := some 112) (v := undef) (a' := ?_) #[true, true, true, true, true, true, true, true, true, true, true, true, true, true, false, false] rfl rfl (any_of HT_.out (by kernel_rfl)) (fun _ _ _ h => h) (Or.inr ⟨by rfl, rfl⟩) ?_ ?_
               rotate_left
               ·simp only [Act.put, List.setIfInBounds_toArray, List.set_cons_zero, List.set_cons_succ, i64_w, i32_w]
                rfl
               refine pure_ (i := 14) (N := some 113) (v := ?_) (a' := ?_) #[true, true, true, true, true, true, true, true, true, true, true, true, true, true, true, false] rfl rfl (any_of HT_.out (by kernel_rfl)) (fun _ _ _ h => h) (Or.inl ⟨by rfl, ?_⟩) ?_ ?_
               rotate_left
               ·intro w'
                go_simp
                with_reducible rfl
               rotate_left
               ·simp only [Act.put, List.setIfInBounds_toArray, List.set_cons_zero, List.set_cons_succ, i64_w, i32_w]
                rfl
               refine pure_ (i := 15) (N := some 4) (v := ?_) (a' := ?_) #[true, true, true, true, true, true, true, true, true, true, true, true, true, true, true, true] rfl rfl (any_of HT_.out (by kernel_rfl)) (fun _ _ _ h => h) (Or.inl ⟨by rfl, ?_⟩) ?_ ?_
               rotate_left
               ·intro w'
                go_simp
                with_reducible rfl
               rotate_left
               ·simp only [Act.put, List.setIfInBounds_toArray, List.set_cons_zero, List.set_cons_succ, i64_w, i32_w]
                rfl
               refine done_ (done_of HT_.out (by kernel_rfl)) ?_
               try go_wp2
               go_ret
               exact ⟨by first | rfl | (simp [errW_none, errW_some] <;> rfl) | (simp [*, errW_none, errW_some] <;> rfl), tg3 HB.out GE101.out GE121.out GE147.out⟩
             ·rw [if_neg c71] at H
              exact absurd H (by simp)
    ·rw [if_neg c18] at H
     exact absurd H (by simp)

end Go.Proofs.YtiphindialkmnaaDoor.X
end
section
namespace Go.Proofs.YtiphindialkmnaaDoor.X
open Go.RowKit Go.Proofs.YtiphindialkmnaaDoorW.PrintWords Go.Proofs.YtiphindialkmnaaDoorW.PrintLast Go.Proofs.YtiphindialkmnaaDoorW.PrintMore
set_option linter.unusedSimpArgs false
set_option linter.unusedVariables false
theorem first_end {p : Nat → Bool} : ∀ {d i : Nat}, (∀ j, i ≤ j → j < i + d → p j = false) → p (i + d) = true → first p (d + 1) i = some (i + d)
  | 0, i, _, h => by simp only [first]; rw [if_pos (by simpa using h)]; simp
  | d + 1, i, h, he => by
    have h0 := h i (Nat.le_refl _) (by omega)
    have ih := first_end (p := p) (d := d) (i := i + 1) (fun j h1 h2 => h j (by omega) (by omega)) (by rw [show i + 1 + d = i + (d + 1) by omega]; exact he)
    rw [first, if_neg (by rw [h0]; decide), ih]
    congr 1
    omega
theorem names_end {l : List ByteArray} {x : ByteArray} (h : ∀ s ∈ l, nameE s = 0) (hx : nameE x ≠ 0) : first (badName (l ++ [x])) (l ++ [x]).length 0 = some l.length := by
  rw [List.length_append, List.length_singleton]
  have := first_end (p := badName (l ++ [x])) (d := l.length) (i := 0) (fun j _ hj => ?_) ?_
  · simpa using this
  · unfold badName
    rw [getD_app _ (by omega), decide_eq_false_iff_not, Decidable.not_not]
    exact h _ (getD_mem _ (by omega))
  · unfold badName
    rw [Nat.zero_add, getD_end]
    exact decide_eq_true hx
theorem dup_app {l : List ByteArray} {x : ByteArray} {j : Nat} (hj : j < l.length) : dup (l ++ [x]) j = dup l j := by
  unfold dup
  rw [getD_app _ hj, List.take_append_of_le_length (by omega)]
theorem dup_end {l : List ByteArray} {x : ByteArray} : dup (l ++ [x]) l.length = decide (x ∈ l) := by
  unfold dup
  rw [getD_end, List.take_append_of_le_length (Nat.le_refl _), List.take_length]
theorem dups_end {l : List ByteArray} {x : ByteArray} (h : once l) : first (dup (l ++ [x])) (l ++ [x]).length 0 = if x ∈ l then some l.length else none := by
  have h0 := first_none.1 (dup_once.2 h)
  rw [List.length_append, List.length_singleton]
  by_cases hx : x ∈ l
  · rw [if_pos hx]
    have := first_end (p := dup (l ++ [x])) (d := l.length) (i := 0) (fun j h1 hj => by rw [dup_app (by omega)]; exact h0 j h1 hj) (by rw [Nat.zero_add, dup_end]; exact decide_eq_true hx)
    simpa using this
  · rw [if_neg hx, first_none]
    intro j h1 hj
    by_cases c : j < l.length
    · rw [dup_app c]; exact h0 j h1 (by omega)
    · have : j = l.length := by omega
      subst this
      rw [dup_end]
      exact decide_eq_false hx
/-- what is told of a module with one import more -/
theorem more_fault {a0 : ByteArray} {l1 l2 : List ByteArray} {l3 l4 : List Int} {l5 : List S43} (h : ModOk a0 l1 l2 l3 l4 l5) (x : ByteArray) :
    vModule a0 l1 (l2 ++ [x]) l3 l4 l5 = if l2.length = 16 ∨ x.size > 96 then (1, 0) else if nameE x ≠ 0 then (2, 9 + (l2.length : Int)) else if x ∈ l2 then (3, 8 + (l2.length : Int)) else (0, 0) := by
  obtain ⟨o1, o2, o3, o4, o5, o6, o7, o8, o9⟩ := h.obj
  unfold vModule
  by_cases c : l2.length = 16 ∨ x.size > 96
  · rw [if_pos c, if_neg]
    rintro ⟨p1, p2, p3, p4, p5, p6, p7, p8, p9⟩
    rcases c with c | c
    · simp at p2; omega
    · have := p8 x (by simp); omega
  rw [if_neg c]
  have ho : objOk a0 l1 (l2 ++ [x]) l3 l4 l5 := by
    refine ⟨o1, by simp; omega, o3, o4, o5, o6, o7, fun s hs => ?_, o9⟩
    rcases List.mem_append.1 hs with hs | hs
    · exact o8 s hs
    · obtain rfl := List.mem_singleton.1 hs
      omega
  rw [if_pos ho]
  have t1 : first (badName (a0 :: l1)) (l1.length + 1) 0 = none := (names_all (l := a0 :: l1) (n := l1.length + 1) rfl).2 (fun s hs => by
    rcases List.mem_cons.1 hs with rfl | hs
    · exact h.n
    · exact h.e s hs)
  unfold vTexts
  rw [t1]
  simp only
  by_cases cn : nameE x ≠ 0
  · rw [if_pos cn, names_end h.i cn]
    simp
  · rw [if_neg cn]
    have t2 : first (badName (l2 ++ [x])) (l2 ++ [x]).length 0 = none := (names_all rfl).2 (fun s hs => by
      rcases List.mem_append.1 hs with hs | hs
      · exact h.i s hs
      · obtain rfl := List.mem_singleton.1 hs
        simpa using cn)
    rw [t2]
    simp only
    rw [dup_once.2 h.d1]
    simp only
    rw [dups_end h.d2]
    by_cases cm : x ∈ l2
    · rw [if_pos cm, if_pos cm]
      simp
    · rw [if_neg cm, if_neg cm]
      simp only [if_true]
      have hw : (vWords l1 l3).1 = 0 := words_ok.2 ⟨h.w0.1, h.w0.2, words_all.2 h.w⟩
      rw [if_pos hw]
      refine relocs_zero (relocs_ok.2 ⟨places_all.2 ⟨h.p, h.q⟩, (not_all (fits l3 l4)).2 h.f, (not_all (there (l2 ++ [x]) l3 l4)).2 (fun r hr => ?_), loose_all.2 h.l⟩)
      have := there_more (m2 := [x]) (m3 := []) (m4 := []) (h.t r hr)
      rwa [List.append_nil, List.append_nil] at this
theorem data_full {a0 : ByteArray} {l1 l2 : List ByteArray} {l3 l4 : List Int} {l5 : List S43} (x : Int) (hl : ¬ l4.length < 128) : ¬ (vModule a0 l1 l2 l3 (l4 ++ [x]) l5).1 = 0 := by
  intro h
  obtain ⟨⟨_, _, _, _, p5, _⟩, _⟩ := module_ok.1 h
  simp at p5
  omega
theorem more_j2 (n : Nat) (hn : 5000 ≤ n) {a0 : ByteArray} {l1 l2 : List ByteArray} {l3 l4 : List Int} {l5 : List S43} (hw : ModWf a0 l1 l2 l3 l4 l5) (hs : l1.length + l2.length + l3.length + l4.length + l5.length ≤ 2000) (h : ModOk a0 l1 l2 l3 l4 l5) (x : ByteArray) :
    budwoodlaw11_ValidMore.j2 (n + 1) (vModule a0 l1 (l2 ++ [x]) l3 l4 l5).1 (vModule a0 l1 (l2 ++ [x]) l3 l4 l5).2 (decide (x ∈ l2)) (decide (l2.length = 16 ∨ x.size > 96)) a0 l1 l2 l3 l4 l5 = some true := by
  have hf := more_fault h x
  simp only [budwoodlaw11_ValidMore.j2, awake_at (k := n) (by omega), Option.bind_some, copy_law a0 l1 l2 l3 l4 l5 hw.s.1 hw.s.2.1 hw.s.2.2.1 hw.s.2.2.2.1 hw.s.2.2.2.2]
  rw [w64 _ (by omega), w64 _ (by omega), hf]
  by_cases c : l2.length = 16 ∨ x.size > 96
  · rw [if_pos c, if_pos (decide_eq_true c)]
    rfl
  rw [if_neg c, if_neg (fun e => c (of_decide_eq_true e))]
  by_cases cn : nameE x ≠ 0
  · rw [if_pos cn]
    simp
  rw [if_neg cn]
  by_cases cm : x ∈ l2
  · rw [if_pos cm]
    simp [cm]
  rw [if_neg cm]
  have hw' : ModWf a0 l1 l2 l3 (l4 ++ [7]) l5 := ⟨hw.n, hw.e, hw.i, hw.r, by omega, by omega, by omega, by simp; omega, by omega⟩
  rw [check_law n (by omega) hw', if_pos (show l4.length < 35184372088832 by omega)]
  simp only [Option.bind_some]
  by_cases cl : l4.length < 128
  · rw [if_pos (ok_iff.2 (ok_data hw.r h cl 7))]
    simp [cm]
    omega
  · rw [if_neg (data_full 7 cl)]
    simp [cm]
    omega
theorem more_l (n : Nat) (hn : 5000 ≤ n) {a0 : ByteArray} {l1 l2 : List ByteArray} {l3 l4 : List Int} {l5 : List S43} (hw : ModWf a0 l1 l2 l3 l4 l5) (hs : l1.length + l2.length + l3.length + l4.length + l5.length ≤ 2000) (h : ModOk a0 l1 l2 l3 l4 l5) (x : ByteArray) : ∀ (d i : Nat), i + d = l2.length →
    budwoodlaw11_ValidMore.l0 (n + d + 2) x (vModule a0 l1 (l2 ++ [x]) l3 l4 l5).1 (vModule a0 l1 (l2 ++ [x]) l3 l4 l5).2 (decide (x ∈ l2.take i)) (i : Int) a0 l1 l2 l3 l4 l5 = some true := by
  intro d
  induction d with
  | zero =>
    intro i h1
    have : i = l2.length := by omega
    subst this
    show budwoodlaw11_ValidMore.l0 (n + 1 + 1) _ _ _ _ _ _ _ _ _ _ _ = _
    simp only [budwoodlaw11_ValidMore.l0]
    rw [if_neg (by omega), List.take_length]
    have hj := more_j2 n hn hw hs h x
    by_cases c : (l2.length : Int) = 16
    · rw [if_pos c]
      rw [show decide (l2.length = 16 ∨ x.size > 96) = true from decide_eq_true (.inl (by omega))] at hj
      exact hj
    · rw [if_neg c]
      have e : decide (l2.length = 16 ∨ x.size > 96) = decide ((x.size : Int) > 96) := by
        rw [Bool.eq_iff_iff, decide_eq_true_iff, decide_eq_true_iff]
        omega
      rw [e] at hj
      exact hj
  | succ d ih =>
    intro i h1
    have hn1 := ih (i + 1) (by omega)
    have ht : l2.take (i + 1) = l2.take i ++ [l2.getD i ByteArray.empty] := by
      rw [List.take_add_one, List.getD_eq_getElem?_getD, List.getElem?_eq_getElem (show i < l2.length by omega)]
      rfl
    rw [ht] at hn1
    obtain ⟨m, hm⟩ : ∃ m, m = n + d + 2 := ⟨_, rfl⟩
    rw [← hm] at hn1
    rw [show n + (d + 1) + 2 = m + 1 by omega]
    simp only [budwoodlaw11_ValidMore.l0]
    rw [if_pos (by omega), w64 _ (by omega)]
    by_cases c : x ∈ l2.take i
    · rw [if_pos (decide_eq_true c)]
      rw [show decide (x ∈ l2.take i ++ [l2.getD i ByteArray.empty]) = true from decide_eq_true (List.mem_append.2 (.inl c))] at hn1
      simpa using hn1
    · rw [if_neg (fun e => c (of_decide_eq_true e)), if_pos (by omega), rdOf_nat]
      have e : decide (x ∈ l2.take i ++ [l2.getD i ByteArray.empty]) = ((l2.getD i ByteArray.empty).toList == x.toList) := by
        rw [Bool.eq_iff_iff, decide_eq_true_iff, beq_iff_eq, bytes_eq_iff, List.mem_append, List.mem_singleton]
        exact ⟨fun h => h.elim (fun h => absurd h c) Eq.symm, fun h => .inr h.symm⟩
      rw [e] at hn1
      simpa using hn1
theorem more_law (a0 : ByteArray) (l1 l2 : List ByteArray) (l3 l4 : List Int) (l5 : List S43) (x : ByteArray)
    (hn : a0.size ≤ 9223372036854775807) (he : ∀ s ∈ l1, s.size ≤ 9223372036854775807) (hi : ∀ s ∈ l2, s.size ≤ 9223372036854775807) (hr : ∀ r ∈ l5, wfR r) (hl : l1.length ≤ 9223372036854775807) (hx : x.size ≤ 9223372036854775807) :
    ∃ k, budwoodlaw11_ValidMore.f k a0 l1 l2 l3 l4 l5 x = some true := by
  obtain ⟨n, hn5⟩ : ∃ n, 8000 ≤ n := ⟨8000, Nat.le_refl _⟩
  obtain ⟨m, hm⟩ : ∃ m, m = n + l2.length + 2 := ⟨_, rfl⟩
  refine ⟨m + 1, ?_⟩
  unfold budwoodlaw11_ValidMore.f
  obtain ⟨s, hs, hsz⟩ := size_law a0 l1 l2 l3 l4 l5 (m + 1) (by omega) hl
  rw [hs]
  simp only [Option.bind_some]
  have hA : budwoodlaw11_ValidMore.j0 (m + 1) x true a0 l1 l2 l3 l4 l5 = some true := by
    simp only [budwoodlaw11_ValidMore.j0, awake_at (k := m) (by omega), Option.bind_some, if_true]
  by_cases hb : s > 2000
  · rw [if_pos hb]; exact hA
  rw [if_neg hb]
  have hlen := hsz (by omega)
  have hw : ModWf a0 l1 l2 l3 l4 l5 := ⟨hn, he, hi, hr, by omega⟩
  rw [check_law (m + 1) (by omega) hw]
  simp only [Option.bind_some]
  by_cases hv : (vModule a0 l1 l2 l3 l4 l5).1 = 0
  case neg => rw [if_neg hv]; exact hA
  rw [if_pos hv]
  have h := ok_iff.1 hv
  show budwoodlaw11_ValidMore.j0 (m + 1) x false a0 l1 l2 l3 l4 l5 = some true
  have hl0 := more_l n (by omega) hw hlen h x l2.length 0 (by omega)
  rw [show decide (x ∈ l2.take 0) = false from decide_eq_false (by simp)] at hl0
  have hl0 : budwoodlaw11_ValidMore.l0 (n + l2.length + 2) x _ _ false 0 a0 l1 l2 l3 l4 l5 = some true := hl0
  rw [← hm] at hl0
  have hw' : ModWf a0 l1 (l2 ++ [x]) l3 l4 l5 := ⟨hn, he, fun s hs => by
    rcases List.mem_append.1 hs with hs | hs
    · exact hi s hs
    · obtain rfl := List.mem_singleton.1 hs
      exact hx, hr, by omega, by simp; omega, by omega, by omega, by omega⟩
  simp only [budwoodlaw11_ValidMore.j0, Bool.false_eq_true, if_false, copy_law a0 l1 l2 l3 l4 l5 (by omega) (by omega) (by omega) (by omega) (by omega), Option.bind_some, module_law m (by omega) hw']
  rw [if_pos (by omega)]
  exact hl0
end Go.Proofs.YtiphindialkmnaaDoor.X
end
