/- Texts that the proof rests on, part 5. -/
import Derived.Test.YtiphindialkmnaaDoorMOnly4
section
namespace Go.Proofs.YtiphindialkmnaaDoor.X
open Go.RowKit Go.Proofs.YtiphindialkmnaaDoorW.PrintWords Go.Proofs.YtiphindialkmnaaDoorW.PrintLast Go.Proofs.YtiphindialkmnaaDoorW.PrintMore
attribute [local go_sem] max2_int min2_int max_two min_two max_three min_three max_four min_four
set_option linter.unusedVariables false
set_option linter.unusedSimpArgs false

/-! ### valid_there: function 82 -/
def valid_there.j0 : Nat → Int → Bool → ByteArray → List ByteArray → List ByteArray → List Int → List Int → List (S43) → Int → Int → Int → Option (Bool)
 | 0, _, _, _, _, _, _, _, _, _, _, _ => none
 | k + 1, x6, x7, x102000, x102001, x102002, x102003, x102004, x102005, x103000, x103001, x103002 => if x7 = true then (some (decide ((wrap64 (x103002)) < (x102002.length : Int)))) else (if x6 = 2 then (some (decide ((wrap64 (x103002)) < (x102004.length : Int)))) else (if x6 = 5 then (some (decide ((wrap64 (x103002)) < (x102004.length : Int)))) else (some (decide ((wrap64 (x103002)) < (x102003.length : Int))))))
def valid_there.f (k : Nat) (a0_0 : ByteArray) (l0_1 : List ByteArray) (l0_2 : List ByteArray) (l0_3 : List Int) (l0_4 : List Int) (l0_5 : List (S43)) (a1_0 : Int) (a1_1 : Int) (a1_2 : Int) : Option (Bool) := if a1_0 = 0 then (valid_there.j0 k a1_0 (a1_0 == 0) a0_0 l0_1 l0_2 l0_3 l0_4 l0_5 a1_0 a1_1 a1_2) else (if a1_0 = 1 then (valid_there.j0 k a1_0 (a1_0 == 1) a0_0 l0_1 l0_2 l0_3 l0_4 l0_5 a1_0 a1_1 a1_2) else (valid_there.j0 k a1_0 (a1_0 == 4) a0_0 l0_1 l0_2 l0_3 l0_4 l0_5 a1_0 a1_1 a1_2))
theorem valid_there.mono_l : ∀ k, (∀ y0 y1 y2 y3 y4 y5 y6 y7 y8 y9 y10, LeO (valid_there.j0 k y0 y1 y2 y3 y4 y5 y6 y7 y8 y9 y10) (valid_there.j0 (k + 1) y0 y1 y2 y3 y4 y5 y6 y7 y8 y9 y10))
 | 0 => fun _ _ _ _ _ _ _ _ _ _ _ r h => by simp [valid_there.j0] at h
 | k + 1 => by
  have ih0 := valid_there.mono_l k
  ·intro y0 y1 y2 y3 y4 y5 y6 y7 y8 y9 y10
   unfold valid_there.j0
   repeat' first
   | (with_reducible exact ih0 _ _ _ _ _ _ _ _ _ _ _)
   | (with_reducible exact LeO.refl _)
   | (with_reducible exact LeO.none _)
   | (with_reducible refine LeO.ite ?_ ?_)
   | (with_reducible refine LeO.bind ?_ (fun _ => ?_))
theorem valid_there.mono : ∀ a0 a1 a2 a3 a4 a5 a6 a7 a8 k, LeO (valid_there.f k a0 a1 a2 a3 a4 a5 a6 a7 a8) (valid_there.f (k + 1) a0 a1 a2 a3 a4 a5 a6 a7 a8) := by
 intro a0 a1 a2 a3 a4 a5 a6 a7 a8 k
 have ih0 := valid_there.mono_l k
 unfold valid_there.f
 repeat' first
   | (with_reducible exact ih0 _ _ _ _ _ _ _ _ _ _ _)
   | (with_reducible exact LeO.refl _)
   | (with_reducible exact LeO.none _)
   | (with_reducible refine LeO.ite ?_ ?_)
   | (with_reducible refine LeO.bind ?_ (fun _ => ?_))
set_option maxHeartbeats 8000000 in
set_option maxRecDepth 100000 in
theorem valid_there.calls (k : Nat) (a0_0 : ByteArray) (A0_1 : Option Addr) (c0_1 : Nat) (l0_1 : List ByteArray) (A0_2 : Option Addr) (c0_2 : Nat) (l0_2 : List ByteArray) (A0_3 : Option Addr) (c0_3 : Nat) (l0_3 : List Int) (A0_4 : Option Addr) (c0_4 : Nat) (l0_4 : List Int) (A0_5 : Option Addr) (c0_5 : Nat) (l0_5 : List (S43)) (a1_0 : Int) (a1_1 : Int) (a1_2 : Int) (r : Bool) (w : World) (hr0_1 : Kd.C Kd.string w A0_1 l0_1.length l0_1) (hc0_1 : l0_1.length ≤ c0_1) (hr0_2 : Kd.C Kd.string w A0_2 l0_2.length l0_2) (hc0_2 : l0_2.length ≤ c0_2) (hr0_3 : Kd.C (Kd.int .u32) w A0_3 l0_3.length l0_3) (hc0_3 : l0_3.length ≤ c0_3) (hr0_4 : Kd.C (Kd.int .u32) w A0_4 l0_4.length l0_4) (hc0_4 : l0_4.length ≤ c0_4) (hr0_5 : Kd.C k43 w A0_5 l0_5.length l0_5) (hc0_5 : l0_5.length ≤ c0_5) (h : valid_there.f k a0_0 l0_1 l0_2 l0_3 l0_4 l0_5 a1_0 a1_1 a1_2 = some r) :
  Calls Tryd.prog 82 #[.agg #[.string a0_0, .slice A0_1 l0_1.length c0_1, .slice A0_2 l0_2.length c0_2, .slice A0_3 l0_3.length c0_3, .slice A0_4 l0_4.length c0_4, .slice A0_5 l0_5.length c0_5], .agg #[.int .u8 a1_0, .int .u16 a1_1, .int .u16 a1_2]] w fun e w' => e = .returned (.bool r) ∧ Below w.heap.size w w' := by
 have hu26 := Tryd.underlying26
 have hu43 := Tryd.underlying43
 have HR0_1 := Aside0.mk hr0_1
 have HC0_1 := Aside0.mk hc0_1
 clear hr0_1 hc0_1
 have HR0_2 := Aside0.mk hr0_2
 have HC0_2 := Aside0.mk hc0_2
 clear hr0_2 hc0_2
 have HR0_3 := Aside0.mk hr0_3
 have HC0_3 := Aside0.mk hc0_3
 clear hr0_3 hc0_3
 have HR0_4 := Aside0.mk hr0_4
 have HC0_4 := Aside0.mk hc0_4
 clear hr0_4 hc0_4
 have HR0_5 := Aside0.mk hr0_5
 have HC0_5 := Aside0.mk hc0_5
 clear hr0_5 hc0_5
 have HB := Aside0.mk (Below.refl w.heap.size w)
 have H : (if a1_0 = 0 then (valid_there.j0 k a1_0 (a1_0 == 0) a0_0 l0_1 l0_2 l0_3 l0_4 l0_5 a1_0 a1_1 a1_2) else (if a1_0 = 1 then (valid_there.j0 k a1_0 (a1_0 == 1) a0_0 l0_1 l0_2 l0_3 l0_4 l0_5 a1_0 a1_1 a1_2) else (valid_there.j0 k a1_0 (a1_0 == 4) a0_0 l0_1 l0_2 l0_3 l0_4 l0_5 a1_0 a1_1 a1_2))) = some r := h
 clear h
 have HC3 := Aside0.mk H
 clear H
 go_enter Tryd.func82, Tryd.ntmps82
 go_upto_if 7 with (first | ((with_reducible refine gate_dst (N := 2) rfl ?_); refine box_event ?hg (N := 2) ?hd (cs := #[.string a0_0, .slice A0_1 l0_1.length c0_1, .slice A0_2 l0_2.length c0_2, .slice A0_3 l0_3.length c0_3, .slice A0_4 l0_4.length c0_4, .slice A0_5 l0_5.length c0_5]) (t := 26) ?hr ?_; (case hd => rfl); (case hg => rfl); (case hr => first | (go_simp; done) | (go_simp; rfl)); intro gb101 hg w4 hbox hb; have n0_ := Aside0.mk (below_step (tg HB.out) hb); have n1_ := Aside0.mk (hbox); have n2_ := Aside0.mk ((by rw [hg]; exact (below_size (tg HB.out)) : w.heap.size ≤ gb101)); have n3_ := Aside0.mk ((by rw [hg]; exact (below_size (tg HB.out)) : w.heap.size ≤ gb101)); clear HB; have HB := n0_; have BK101 := n1_; have GW101 := n2_; have GE101 := n3_; clear n0_ n1_ n2_ n3_; clear hb hbox hg) | ((with_reducible refine gate_dst (N := 3) rfl ?_); refine box_event ?hg (N := 3) ?hd (cs := #[.int .u8 a1_0, .int .u16 a1_1, .int .u16 a1_2]) (t := 43) ?hr ?_; (case hd => rfl); (case hg => rfl); (case hr => first | (go_simp; done) | (go_simp; rfl)); intro gb102 hg w5 hbox hb; have n0_ := ba BK101.out hb; have n1_ := Aside0.mk (below_step (tg1 HB.out GE101.out) hb); have n2_ := Aside0.mk (hbox); have n3_ := Aside0.mk ((by rw [hg]; exact (below_size (tg1 HB.out GE101.out)) : w.heap.size ≤ gb102)); have n4_ := Aside0.mk ((by rw [hg]; exact (below_size (tg1 HB.out GE101.out)) : w.heap.size ≤ gb102)); have n5_ := Aside0.mk ((by rw [hg]; exact Nat.ne_of_lt (blk_lt (g := gb101) (o := .cells #[.string a0_0, .slice A0_1 l0_1.length c0_1, .slice A0_2 l0_2.length c0_2, .slice A0_3 l0_3.length c0_3, .slice A0_4 l0_4.length c0_4, .slice A0_5 l0_5.length c0_5] 26 (0, 0)) (tb BK101.out)) : gb101 ≠ gb102)); have n6_ := Aside0.mk ((by rw [hg]; exact Nat.ne_of_gt (blk_lt (g := gb101) (o := .cells #[.string a0_0, .slice A0_1 l0_1.length c0_1, .slice A0_2 l0_2.length c0_2, .slice A0_3 l0_3.length c0_3, .slice A0_4 l0_4.length c0_4, .slice A0_5 l0_5.length c0_5] 26 (0, 0)) (tb BK101.out)) : gb102 ≠ gb101)); clear BK101; clear HB; have BK101 := n0_; have HB := n1_; have BK102 := n2_; have GW102 := n3_; have GE102 := n4_; have NB101_102 := n5_; have NB102_101 := n6_; clear n0_ n1_ n2_ n3_ n4_ n5_ n6_; clear hb hbox hg; have hnb6 := NB102_101.out; have hnc6 := NB101_102.out; obtain ⟨hcz7_0, hcz7_1, hcz7_2, hfz7_0, hfz7_1, hfz7_2⟩ := cq3 BK102.out))
 (try simp only [Act.put, List.setIfInBounds_toArray, List.set_cons_zero, List.set_cons_succ])
 go_cut [7] (fun v7 wc => ∃ (kq : Nat) (x7_2 : Bool), v7 = .bool x7_2 ∧ Aside0 (valid_there.j0 kq a1_0 x7_2 a0_0 l0_1 l0_2 l0_3 l0_4 l0_5 a1_0 a1_1 a1_2 = some r) ∧ Aside0 (kq ≤ k) ∧ Aside0 (wc.heap[gb101]? = some (.cells #[.string a0_0, (.slice A0_1 l0_1.length c0_1), (.slice A0_2 l0_2.length c0_2), (.slice A0_3 l0_3.length c0_3), (.slice A0_4 l0_4.length c0_4), (.slice A0_5 l0_5.length c0_5)] 26 (0, 0))) ∧ Aside0 (wc.heap[gb102]? = some (.cells #[.int .u8 a1_0, .int .u16 a1_1, .int .u16 a1_2] 43 (0, 0))) ∧ Aside0 (Below w.heap.size w wc))
 case first =>
  have H := HC3.out
  clear HC3
  by_cases c8 : a1_0 = 0
  ·rw [if_pos c8] at H
   have c8b0 : (a1_0 == 0) = true := beq_iff_eq.mpr c8
   have c8b1 : (a1_0 != 0) = false := bne_eq_false_iff_eq.mpr c8
   clear c8
   (first | rw [c8b0] | (simp only [i64_w, i32_w]; rw [c8b0]) | skip)
   have H' := Aside0.mk H
   clear H
   go_wp2
   go_meet
   case rel => exact ⟨_, ((a1_0 == 0)), ts, H', ⟨tn⟩, ⟨tb BK101.out⟩, ⟨tb BK102.out⟩, ⟨tg2 HB.out GE101.out GE102.out⟩⟩
  ·rw [if_neg c8] at H
   have c8b0 : (a1_0 == 0) = false := beq_eq_false_iff_ne.mpr c8
   have c8b1 : (a1_0 != 0) = true := bne_iff_ne.mpr c8
   (first | rw [c8b0] | (simp only [i64_w, i32_w]; rw [c8b0]) | skip)
   by_cases c9 : a1_0 = 1
   ·rw [if_pos c9] at H
    have c9b0 : (a1_0 == 1) = true := beq_iff_eq.mpr c9
    have c9b1 : (a1_0 != 1) = false := bne_eq_false_iff_eq.mpr c9
    clear c9
    have H' := Aside0.mk H
    clear H
    go_wp2
    go_meet
    case rel => exact ⟨_, ((a1_0 == 1)), ts, H', ⟨tn⟩, ⟨tb BK101.out⟩, ⟨tb BK102.out⟩, ⟨tg2 HB.out GE101.out GE102.out⟩⟩
   ·rw [if_neg c9] at H
    have c9b0 : (a1_0 == 1) = false := beq_eq_false_iff_ne.mpr c9
    have c9b1 : (a1_0 != 1) = true := bne_iff_ne.mpr c9
    have H' := Aside0.mk H
    clear H
    go_wp2
    go_meet
    case rel => exact ⟨_, ((a1_0 == 4)), ts, H', ⟨tn⟩, ⟨tb BK101.out⟩, ⟨tb BK102.out⟩, ⟨tg2 HB.out GE101.out GE102.out⟩⟩
 case rest =>
  clear HC3
  try clear p2
  try clear c6
  try clear c8
  try clear c8b0
  try clear c8b1
  try clear c9
  try clear c9b0
  try clear c9b1
  try clear hcz7_0 hcz7_1 hcz7_2 hfz7_0 hfz7_1 hfz7_2
  obtain ⟨kq, x7_2, rfl, HA, HJ2, BK101, BK102, HB⟩ := hcut
  cases kq with
  | zero => exact absurd HA.out (by simp [valid_there.j0])
  | succ kj2 =>
   have H := HA.out
   clear HA
   simp only [valid_there.j0] at H
   by_cases c10 : x7_2 = true
   ·subst c10
    have H1 : (some (decide ((wrap64 (a1_2)) < (l0_2.length : Int)))) = some r := by rw [if_pos rfl] at H; exact H
    clear H
    have H := H1
    clear H1
    obtain rfl := Option.some.inj H
    have hnb11 := NB102_101.out
    have hnc11 := NB101_102.out
    obtain ⟨hcz12_0, hcz12_1, hcz12_2, hfz12_0, hfz12_1, hfz12_2⟩ := cq3 BK102.out
    obtain ⟨hcz13_0, hcz13_1, hcz13_2, hcz13_3, hcz13_4, hcz13_5, hfz13_0, hfz13_1, hfz13_2, hfz13_3, hfz13_4, hfz13_5⟩ := cq6 BK101.out
    go_wp2
    go_ret
    exact ⟨te, tg2 HB.out GE101.out GE102.out⟩
   ·replace c10 := Bool.eq_false_iff.mpr c10
    subst c10
    have H1 : (if a1_0 = 2 then (some (decide ((wrap64 (a1_2)) < (l0_4.length : Int)))) else (if a1_0 = 5 then (some (decide ((wrap64 (a1_2)) < (l0_4.length : Int)))) else (some (decide ((wrap64 (a1_2)) < (l0_3.length : Int)))))) = some r := by rw [if_neg (show ¬ (false = true) by decide)] at H; exact H
    clear H
    have H := H1
    clear H1
    by_cases c14 : a1_0 = 2
    ·rw [if_pos c14] at H
     have c14b0 : (a1_0 == 2) = true := beq_iff_eq.mpr c14
     have c14b1 : (a1_0 != 2) = false := bne_eq_false_iff_eq.mpr c14
     clear c14
     obtain rfl := Option.some.inj H
     have hnb15 := NB102_101.out
     have hnc15 := NB101_102.out
     obtain ⟨hcz16_0, hcz16_1, hcz16_2, hfz16_0, hfz16_1, hfz16_2⟩ := cq3 BK102.out
     obtain ⟨hcz17_0, hcz17_1, hcz17_2, hcz17_3, hcz17_4, hcz17_5, hfz17_0, hfz17_1, hfz17_2, hfz17_3, hfz17_4, hfz17_5⟩ := cq6 BK101.out
     go_wp2
     go_ret
     exact ⟨te, tg2 HB.out GE101.out GE102.out⟩
    ·rw [if_neg c14] at H
     have c14b0 : (a1_0 == 2) = false := beq_eq_false_iff_ne.mpr c14
     have c14b1 : (a1_0 != 2) = true := bne_iff_ne.mpr c14
     by_cases c18 : a1_0 = 5
     ·rw [if_pos c18] at H
      have c18b0 : (a1_0 == 5) = true := beq_iff_eq.mpr c18
      have c18b1 : (a1_0 != 5) = false := bne_eq_false_iff_eq.mpr c18
      clear c18
      obtain rfl := Option.some.inj H
      have hnb19 := NB102_101.out
      have hnc19 := NB101_102.out
      obtain ⟨hcz20_0, hcz20_1, hcz20_2, hfz20_0, hfz20_1, hfz20_2⟩ := cq3 BK102.out
      obtain ⟨hcz21_0, hcz21_1, hcz21_2, hcz21_3, hcz21_4, hcz21_5, hfz21_0, hfz21_1, hfz21_2, hfz21_3, hfz21_4, hfz21_5⟩ := cq6 BK101.out
      go_wp2
      go_ret
      exact ⟨te, tg2 HB.out GE101.out GE102.out⟩
     ·rw [if_neg c18] at H
      have c18b0 : (a1_0 == 5) = false := beq_eq_false_iff_ne.mpr c18
      have c18b1 : (a1_0 != 5) = true := bne_iff_ne.mpr c18
      obtain rfl := Option.some.inj H
      have hnb22 := NB102_101.out
      have hnc22 := NB101_102.out
      obtain ⟨hcz23_0, hcz23_1, hcz23_2, hfz23_0, hfz23_1, hfz23_2⟩ := cq3 BK102.out
      obtain ⟨hcz24_0, hcz24_1, hcz24_2, hcz24_3, hcz24_4, hcz24_5, hfz24_0, hfz24_1, hfz24_2, hfz24_3, hfz24_4, hfz24_5⟩ := cq6 BK101.out
      go_wp2
      go_ret
      exact ⟨te, tg2 HB.out GE101.out GE102.out⟩

end Go.Proofs.YtiphindialkmnaaDoor.X
end
section
namespace Go.Proofs.YtiphindialkmnaaDoor.X
open Go.RowKit Go.Proofs.YtiphindialkmnaaDoorW.PrintWords Go.Proofs.YtiphindialkmnaaDoorW.PrintLast Go.Proofs.YtiphindialkmnaaDoorW.PrintMore
attribute [local go_sem] max2_int min2_int max_two min_two max_three min_three max_four min_four
set_option linter.unusedVariables false
set_option linter.unusedSimpArgs false

/-! ### object_Check_1: function 72 -/
def object_Check_1.f (a0 : ByteArray) : Option (Bool) := some (decide ((a0.size : Int) > 96))
set_option maxHeartbeats 8000000 in
set_option maxRecDepth 100000 in
theorem object_Check_1.calls (a0 : ByteArray) (r : Bool) (w : World) (h : object_Check_1.f a0 = some r) :
  Calls Tryd.prog 72 #[.string a0] w fun e w' => e = .returned (.bool r) ∧ Drawn0 w w' := by
 have H : (some (decide ((a0.size : Int) > 96))) = some r := h
 clear h
 obtain rfl := Option.some.inj H
 go_enter Tryd.func72, Tryd.ntmps72
 go_wp2
 go_ret
 exact ⟨ts, tw⟩

end Go.Proofs.YtiphindialkmnaaDoor.X
end
section
namespace Go.Proofs.YtiphindialkmnaaDoor.X
open Go.RowKit Go.Proofs.YtiphindialkmnaaDoorW.PrintWords Go.Proofs.YtiphindialkmnaaDoorW.PrintLast Go.Proofs.YtiphindialkmnaaDoorW.PrintMore
attribute [local go_sem] max2_int min2_int max_two min_two max_three min_three max_four min_four
set_option linter.unusedVariables false
set_option linter.unusedSimpArgs false

/-! ### IndexFunc_long: function 93 -/
def IndexFunc_long.l0 : Nat → List ByteArray → Int → Int → Option (Int)
 | 0, _, _, _ => none
 | k + 1, x0, x7, x8 => if x8 < x7 then (if 0 ≤ x8 then (if x8 < (x0.length : Int) then ((object_Check_1.f (rdOf ByteArray.empty x0 x8)).bind fun t102 => (if t102 = true then (some x8) else (IndexFunc_long.l0 k x0 x7 (wrap64 (x8 + 1))))) else (none)) else (none)) else (some (-1))
def IndexFunc_long.f (k : Nat) (l0 : List ByteArray) (a1 : Unit) : Option (Int) := IndexFunc_long.l0 k l0 (l0.length : Int) 0
theorem IndexFunc_long.mono_l : ∀ k, (∀ y0 y1 y2, LeO (IndexFunc_long.l0 k y0 y1 y2) (IndexFunc_long.l0 (k + 1) y0 y1 y2))
 | 0 => fun _ _ _ r h => by simp [IndexFunc_long.l0] at h
 | k + 1 => by
  have ih0 := IndexFunc_long.mono_l k
  ·intro y0 y1 y2
   unfold IndexFunc_long.l0
   repeat' first
   | (with_reducible exact ih0 _ _ _)
   | (with_reducible exact LeO.refl _)
   | (with_reducible exact LeO.none _)
   | (with_reducible refine LeO.ite ?_ ?_)
   | (with_reducible refine LeO.bind ?_ (fun _ => ?_))
theorem IndexFunc_long.mono : ∀ a0 a1 k, LeO (IndexFunc_long.f k a0 a1) (IndexFunc_long.f (k + 1) a0 a1) := by
 intro a0 a1 k
 have ih0 := IndexFunc_long.mono_l k
 unfold IndexFunc_long.f
 repeat' first
   | (with_reducible exact ih0 _ _ _)
   | (with_reducible exact LeO.refl _)
   | (with_reducible exact LeO.none _)
   | (with_reducible refine LeO.ite ?_ ?_)
   | (with_reducible refine LeO.bind ?_ (fun _ => ?_))
set_option maxHeartbeats 8000000 in
set_option maxRecDepth 100000 in
theorem IndexFunc_long.calls (k : Nat) (A0 : Option Addr) (c0 : Nat) (l0 : List ByteArray) (a1 : Unit) (r : Int) (w : World) (hr0 : Kd.C Kd.string w A0 l0.length l0) (hc0 : l0.length ≤ c0) (h : IndexFunc_long.f k l0 a1 = some r) :
  Calls Tryd.prog 93 #[.slice A0 l0.length c0, .func (.func 72) #[] #[]] w fun e w' => e = .returned (.int .i64 r) ∧ Drawn0 w w' := by
 have HR0 := Aside0.mk hr0
 have HC0 := Aside0.mk hc0
 clear hr0 hc0
 have H : (IndexFunc_long.l0 k l0 (l0.length : Int) 0) = some r := h
 clear h
 have H' := Aside0.mk H
 clear H
 go_enter Tryd.func93, Tryd.ntmps93
 go_wp2
 go_loopg [8] k (fun kq v8 w' => ∃ (x8_1 : Int), v8 = .int .i64 x8_1 ∧ Aside0 (IndexFunc_long.l0 kq l0 (l0.length : Int) x8_1 = some r) ∧ Aside0 (kq ≤ k) ∧ Drawn0 w w')
 case atStart => exact ⟨(0), ts, H', ⟨Nat.le_refl _⟩, tw⟩
 case round =>
  clear H'
  try clear p2
  obtain ⟨x8_1, rfl, HA, HK1, ⟨m1, rfl⟩⟩ := hrel
  cases gk with
  | zero => exact absurd HA.out (by simp [IndexFunc_long.l0])
  | succ k1 =>
   have H := HA.out
   clear HA
   simp only [IndexFunc_long.l0] at H
   by_cases c3 : x8_1 < (l0.length : Int)
   ·rw [if_pos c3] at H
    have c3b0 : decide (x8_1 < (l0.length : Int)) = true := decide_eq_true c3
    clear c3
    by_cases c4 : 0 ≤ x8_1
    ·rw [if_pos c4] at H
     have c4b0 : decide (0 ≤ x8_1) = true := decide_eq_true c4
     clear c4
     by_cases c5 : x8_1 < (l0.length : Int)
     ·rw [if_pos c5] at H
      have c5b0 : decide (x8_1 < (l0.length : Int)) = true := decide_eq_true c5
      clear c5
      replace H := Option.bind_eq_some_iff.mp H
      obtain ⟨t102, A60, H⟩ := H
      replace H : (if t102 = true then (some x8_1) else (IndexFunc_long.l0 k1 l0 (l0.length : Int) (wrap64 (x8_1 + 1)))) = some r := H
      have A6 := Aside0.mk A60
      clear A60
      by_cases c7 : t102 = true
      ·subst c7
       have H1 : (some x8_1) = some r := by rw [if_pos rfl] at H; exact H
       clear H
       have H := H1
       clear H1
       obtain rfl := Option.some.inj H
       have p101 : 0 ≤ (x8_1 : Int) := td
       have q101 : x8_1 < (l0.length : Int) := td
       obtain ⟨ad101, e101, hx101_0⟩ := Kd.at_string HR0.out x8_1 p101 q101
       cases e101
       replace p101 := eq_true p101
       replace q101 := eq_true q101
       go_wp2_with (first | (go_at_call 72; (with_reducible refine (object_Check_1.calls (rdOf ByteArray.empty l0 x8_1) true _ A6.out).mono ?_); rintro e w' ⟨rfl, ⟨nd, rfl⟩⟩))
       go_ret
       exact ⟨ts, tw⟩
      ·replace c7 := Bool.eq_false_iff.mpr c7
       subst c7
       have H1 : (IndexFunc_long.l0 k1 l0 (l0.length : Int) (wrap64 (x8_1 + 1))) = some r := by rw [if_neg (show ¬ (false = true) by decide)] at H; exact H
       clear H
       have H := H1
       clear H1
       have H' := Aside0.mk H
       clear H
       have p101 : 0 ≤ (x8_1 : Int) := td
       have q101 : x8_1 < (l0.length : Int) := td
       obtain ⟨ad101, e101, hx101_0⟩ := Kd.at_string HR0.out x8_1 p101 q101
       cases e101
       replace p101 := eq_true p101
       replace q101 := eq_true q101
       go_wp2_with (first | (go_at_call 72; (with_reducible refine (object_Check_1.calls (rdOf ByteArray.empty l0 x8_1) false _ A6.out).mono ?_); rintro e w' ⟨rfl, ⟨nd, rfl⟩⟩))
       go_roundg k1
       case measure => have := HK1.out; omega
       case rel => exact ⟨(wrap64 (x8_1 + 1)), ts, H', ⟨by have := HK1.out; omega⟩, tw⟩
     ·rw [if_neg c5] at H
      exact absurd H (by simp)
    ·rw [if_neg c4] at H
     exact absurd H (by simp)
   ·rw [if_neg c3] at H
    have c3b0 : decide (x8_1 < (l0.length : Int)) = false := decide_eq_false c3
    clear c3
    obtain rfl := Option.some.inj H
    go_wp2
    go_ret
    exact ⟨ts, tw⟩

end Go.Proofs.YtiphindialkmnaaDoor.X
end
section
namespace Go.Proofs.YtiphindialkmnaaDoor.X
open Go.RowKit Go.Proofs.YtiphindialkmnaaDoorW.PrintWords Go.Proofs.YtiphindialkmnaaDoorW.PrintLast Go.Proofs.YtiphindialkmnaaDoorW.PrintMore
attribute [local go_sem] max2_int min2_int max_two min_two max_three min_three max_four min_four
set_option linter.unusedVariables false
set_option linter.unusedSimpArgs false

/-! ### ContainsFunc_long: function 56 -/
def ContainsFunc_long.f (k : Nat) (l0 : List ByteArray) (a1 : Unit) : Option (Bool) := (IndexFunc_long.f k l0 a1).bind fun t101 => (some (decide (t101 ≥ 0)))
theorem ContainsFunc_long.mono : ∀ a0 a1 k, LeO (ContainsFunc_long.f k a0 a1) (ContainsFunc_long.f (k + 1) a0 a1) := by
 intro a0 a1 k
 unfold ContainsFunc_long.f
 repeat' first
   | (with_reducible exact IndexFunc_long.mono _ _ _)
   | (with_reducible exact LeO.refl _)
   | (with_reducible exact LeO.none _)
   | (with_reducible refine LeO.ite ?_ ?_)
   | (with_reducible refine LeO.bind ?_ (fun _ => ?_))
set_option maxHeartbeats 8000000 in
set_option maxRecDepth 100000 in
theorem ContainsFunc_long.calls (k : Nat) (A0 : Option Addr) (c0 : Nat) (l0 : List ByteArray) (a1 : Unit) (r : Bool) (w : World) (hr0 : Kd.C Kd.string w A0 l0.length l0) (hc0 : l0.length ≤ c0) (h : ContainsFunc_long.f k l0 a1 = some r) :
  Calls Tryd.prog 56 #[.slice A0 l0.length c0, .func (.func 72) #[] #[]] w fun e w' => e = .returned (.bool r) ∧ Drawn0 w w' := by
 have HR0 := Aside0.mk hr0
 have HC0 := Aside0.mk hc0
 clear hr0 hc0
 have H : ((IndexFunc_long.f k l0 a1).bind fun t101 => (some (decide (t101 ≥ 0)))) = some r := h
 clear h
 replace H := Option.bind_eq_some_iff.mp H
 obtain ⟨t101, A30, H⟩ := H
 replace H : (some (decide (t101 ≥ 0))) = some r := H
 have A3 := Aside0.mk A30
 clear A30
 obtain rfl := Option.some.inj H
 go_enter Tryd.func56, Tryd.ntmps56
 go_wp2_with (first | ((with_reducible refine gate_callee (f := 93) rfl ?_); refine goesL_ (some 7) rfl rfl Tryd.func93 (by kernel_rfl) rfl #[.slice A0 l0.length c0, .func (.func 72) #[] #[]] rfl tm ?_; (with_reducible refine (IndexFunc_long.calls k _ _ l0 a1 t101 _ (tc HR0.out) HC0.out A3.out).mono ?_); rintro e w' ⟨rfl, ⟨nd, rfl⟩⟩; refine ⟨_, rfl, ?_⟩))
 go_ret
 exact ⟨ts, tw⟩

end Go.Proofs.YtiphindialkmnaaDoor.X
end
section
namespace Go.Proofs.YtiphindialkmnaaDoor.X
open Go.RowKit Go.Proofs.YtiphindialkmnaaDoorW.PrintWords Go.Proofs.YtiphindialkmnaaDoorW.PrintLast Go.Proofs.YtiphindialkmnaaDoorW.PrintMore
attribute [local go_sem] max2_int min2_int max_two min_two max_three min_three max_four min_four
set_option linter.unusedVariables false
set_option linter.unusedSimpArgs false

/-! ### object_Check_2: function 74 -/
def object_Check_2.f (a0_0 : Int) (a0_1 : Int) (a0_2 : Int) : Option (Bool) := some (decide (a0_0 > 7))
set_option maxHeartbeats 8000000 in
set_option maxRecDepth 100000 in
theorem object_Check_2.calls (a0_0 : Int) (a0_1 : Int) (a0_2 : Int) (r : Bool) (w : World) (h : object_Check_2.f a0_0 a0_1 a0_2 = some r) :
  Calls Tryd.prog 74 #[.agg #[.int .u8 a0_0, .int .u16 a0_1, .int .u16 a0_2]] w fun e w' => e = .returned (.bool r) ∧ Below w.heap.size w w' := by
 have hu43 := Tryd.underlying43
 have HB := Aside0.mk (Below.refl w.heap.size w)
 have H : (some (decide (a0_0 > 7))) = some r := h
 clear h
 obtain rfl := Option.some.inj H
 go_enter Tryd.func74, Tryd.ntmps74
 go_wp2_with (first | ((with_reducible refine gate_dst (N := 1) rfl ?_); refine box_event ?hg (N := 1) ?hd (cs := #[.int .u8 a0_0, .int .u16 a0_1, .int .u16 a0_2]) (t := 43) ?hr ?_; (case hd => rfl); (case hg => rfl); (case hr => first | (go_simp; done) | (go_simp; rfl)); intro gb101 hg w2 hbox hb; have n0_ := Aside0.mk (below_step (tg HB.out) hb); have n1_ := Aside0.mk (hbox); have n2_ := Aside0.mk ((by rw [hg]; exact (below_size (tg HB.out)) : w.heap.size ≤ gb101)); have n3_ := Aside0.mk ((by rw [hg]; exact (below_size (tg HB.out)) : w.heap.size ≤ gb101)); clear HB; have HB := n0_; have BK101 := n1_; have GW101 := n2_; have GE101 := n3_; clear n0_ n1_ n2_ n3_; clear hb hbox hg; obtain ⟨hcz3_0, hcz3_1, hcz3_2, hfz3_0, hfz3_1, hfz3_2⟩ := cq3 BK101.out))
 go_ret
 exact ⟨te, tg1 HB.out GE101.out⟩

end Go.Proofs.YtiphindialkmnaaDoor.X
end
section
namespace Go.Proofs.YtiphindialkmnaaDoor.X
open Go.RowKit Go.Proofs.YtiphindialkmnaaDoorW.PrintWords Go.Proofs.YtiphindialkmnaaDoorW.PrintLast Go.Proofs.YtiphindialkmnaaDoorW.PrintMore
attribute [local go_sem] max2_int min2_int max_two min_two max_three min_three max_four min_four
set_option linter.unusedVariables false
set_option linter.unusedSimpArgs false

/-! ### IndexFunc_kind: function 78 -/
def IndexFunc_kind.l0 : Nat → List (S43) → Int → Int → Option (Int)
 | 0, _, _, _ => none
 | k + 1, x0, x7, x8 => if x8 < x7 then (if 0 ≤ x8 then (if x8 < (x0.length : Int) then ((object_Check_2.f ((rd_T43 x0 x8).f0) ((rd_T43 x0 x8).f1) ((rd_T43 x0 x8).f2)).bind fun t102 => (if t102 = true then (some x8) else (IndexFunc_kind.l0 k x0 x7 (wrap64 (x8 + 1))))) else (none)) else (none)) else (some (-1))
def IndexFunc_kind.f (k : Nat) (l0 : List (S43)) (a1 : Unit) : Option (Int) := IndexFunc_kind.l0 k l0 (l0.length : Int) 0
theorem IndexFunc_kind.mono_l : ∀ k, (∀ y0 y1 y2, LeO (IndexFunc_kind.l0 k y0 y1 y2) (IndexFunc_kind.l0 (k + 1) y0 y1 y2))
 | 0 => fun _ _ _ r h => by simp [IndexFunc_kind.l0] at h
 | k + 1 => by
  have ih0 := IndexFunc_kind.mono_l k
  ·intro y0 y1 y2
   unfold IndexFunc_kind.l0
   repeat' first
   | (with_reducible exact ih0 _ _ _)
   | (with_reducible exact LeO.refl _)
   | (with_reducible exact LeO.none _)
   | (with_reducible refine LeO.ite ?_ ?_)
   | (with_reducible refine LeO.bind ?_ (fun _ => ?_))
theorem IndexFunc_kind.mono : ∀ a0 a1 k, LeO (IndexFunc_kind.f k a0 a1) (IndexFunc_kind.f (k + 1) a0 a1) := by
 intro a0 a1 k
 have ih0 := IndexFunc_kind.mono_l k
 unfold IndexFunc_kind.f
 repeat' first
   | (with_reducible exact ih0 _ _ _)
   | (with_reducible exact LeO.refl _)
   | (with_reducible exact LeO.none _)
   | (with_reducible refine LeO.ite ?_ ?_)
   | (with_reducible refine LeO.bind ?_ (fun _ => ?_))
set_option maxHeartbeats 8000000 in
set_option maxRecDepth 100000 in
theorem IndexFunc_kind.calls (k : Nat) (A0 : Option Addr) (c0 : Nat) (l0 : List (S43)) (a1 : Unit) (r : Int) (w : World) (hr0 : Kd.C k43 w A0 l0.length l0) (hc0 : l0.length ≤ c0) (h : IndexFunc_kind.f k l0 a1 = some r) :
  Calls Tryd.prog 78 #[.slice A0 l0.length c0, .func (.func 74) #[] #[]] w fun e w' => e = .returned (.int .i64 r) ∧ Below w.heap.size w w' := by
 have hu43 := Tryd.underlying43
 have HR0 := Aside0.mk hr0
 have HC0 := Aside0.mk hc0
 clear hr0 hc0
 have HB := Aside0.mk (Below.refl w.heap.size w)
 have H : (IndexFunc_kind.l0 k l0 (l0.length : Int) 0) = some r := h
 clear h
 have H' := Aside0.mk H
 clear H
 go_enter Tryd.func78, Tryd.ntmps78
 go_wp2
 go_loopg [8] k (fun kq v8 w' => ∃ (x8_1 : Int), v8 = .int .i64 x8_1 ∧ Aside0 (IndexFunc_kind.l0 kq l0 (l0.length : Int) x8_1 = some r) ∧ Aside0 (kq ≤ k) ∧ Aside0 (Below w.heap.size w w'))
 case atStart => exact ⟨(0), ts, H', ⟨Nat.le_refl _⟩, ⟨tg HB.out⟩⟩
 case round =>
  clear H'
  try clear p2
  obtain ⟨x8_1, rfl, HA, HK1, HB⟩ := hrel
  cases gk with
  | zero => exact absurd HA.out (by simp [IndexFunc_kind.l0])
  | succ k1 =>
   have H := HA.out
   clear HA
   simp only [IndexFunc_kind.l0] at H
   by_cases c3 : x8_1 < (l0.length : Int)
   ·rw [if_pos c3] at H
    have c3b0 : decide (x8_1 < (l0.length : Int)) = true := decide_eq_true c3
    clear c3
    by_cases c4 : 0 ≤ x8_1
    ·rw [if_pos c4] at H
     have c4b0 : decide (0 ≤ x8_1) = true := decide_eq_true c4
     clear c4
     by_cases c5 : x8_1 < (l0.length : Int)
     ·rw [if_pos c5] at H
      have c5b0 : decide (x8_1 < (l0.length : Int)) = true := decide_eq_true c5
      clear c5
      replace H := Option.bind_eq_some_iff.mp H
      obtain ⟨t102, A60, H⟩ := H
      replace H : (if t102 = true then (some x8_1) else (IndexFunc_kind.l0 k1 l0 (l0.length : Int) (wrap64 (x8_1 + 1)))) = some r := H
      have A6 := Aside0.mk A60
      clear A60
      by_cases c7 : t102 = true
      ·subst c7
       have H1 : (some x8_1) = some r := by rw [if_pos rfl] at H; exact H
       clear H
       have H := H1
       clear H1
       obtain rfl := Option.some.inj H
       have p101 : 0 ≤ (x8_1 : Int) := td
       have q101 : x8_1 < (l0.length : Int) := td
       obtain ⟨ad101, e101, hx101_0, hx101_1, hx101_2⟩ := at_T43 HR0.out x8_1 p101 q101
       cases e101
       replace hx101_0 := (HB.out.cell (World.block_lt_of_cell? w _ hx101_0)).trans hx101_0
       replace hx101_1 := (HB.out.cell (World.block_lt_of_cell? w _ hx101_1)).trans hx101_1
       replace hx101_2 := (HB.out.cell (World.block_lt_of_cell? w _ hx101_2)).trans hx101_2
       replace p101 := eq_true p101
       replace q101 := eq_true q101
       go_wp2_with (first | (go_at_call 74; (with_reducible refine (object_Check_2.calls ((rd_T43 l0 x8_1).f0) ((rd_T43 l0 x8_1).f1) ((rd_T43 l0 x8_1).f2) true _ A6.out).mono ?_); rintro e w8 ⟨rfl, hb⟩; replace HB := Aside0.mk (below_step (tg HB.out) hb); (try clear hb)))
       go_ret
       exact ⟨te, tg HB.out⟩
      ·replace c7 := Bool.eq_false_iff.mpr c7
       subst c7
       have H1 : (IndexFunc_kind.l0 k1 l0 (l0.length : Int) (wrap64 (x8_1 + 1))) = some r := by rw [if_neg (show ¬ (false = true) by decide)] at H; exact H
       clear H
       have H := H1
       clear H1
       have H' := Aside0.mk H
       clear H
       have p101 : 0 ≤ (x8_1 : Int) := td
       have q101 : x8_1 < (l0.length : Int) := td
       obtain ⟨ad101, e101, hx101_0, hx101_1, hx101_2⟩ := at_T43 HR0.out x8_1 p101 q101
       cases e101
       replace hx101_0 := (HB.out.cell (World.block_lt_of_cell? w _ hx101_0)).trans hx101_0
       replace hx101_1 := (HB.out.cell (World.block_lt_of_cell? w _ hx101_1)).trans hx101_1
       replace hx101_2 := (HB.out.cell (World.block_lt_of_cell? w _ hx101_2)).trans hx101_2
       replace p101 := eq_true p101
       replace q101 := eq_true q101
       go_wp2_with (first | (go_at_call 74; (with_reducible refine (object_Check_2.calls ((rd_T43 l0 x8_1).f0) ((rd_T43 l0 x8_1).f1) ((rd_T43 l0 x8_1).f2) false _ A6.out).mono ?_); rintro e w9 ⟨rfl, hb⟩; replace HB := Aside0.mk (below_step (tg HB.out) hb); (try clear hb)))
       go_roundg k1
       case measure => have := HK1.out; omega
       case rel => exact ⟨(wrap64 (x8_1 + 1)), ts, H', ⟨by have := HK1.out; omega⟩, ⟨tg HB.out⟩⟩
     ·rw [if_neg c5] at H
      exact absurd H (by simp)
    ·rw [if_neg c4] at H
     exact absurd H (by simp)
   ·rw [if_neg c3] at H
    have c3b0 : decide (x8_1 < (l0.length : Int)) = false := decide_eq_false c3
    clear c3
    obtain rfl := Option.some.inj H
    go_wp2
    go_ret
    exact ⟨te, tg HB.out⟩

end Go.Proofs.YtiphindialkmnaaDoor.X
end
section
namespace Go.Proofs.YtiphindialkmnaaDoor.X
open Go.RowKit Go.Proofs.YtiphindialkmnaaDoorW.PrintWords Go.Proofs.YtiphindialkmnaaDoorW.PrintLast Go.Proofs.YtiphindialkmnaaDoorW.PrintMore
attribute [local go_sem] max2_int min2_int max_two min_two max_three min_three max_four min_four
set_option linter.unusedVariables false
set_option linter.unusedSimpArgs false

/-! ### ContainsFunc_kind: function 73 -/
def ContainsFunc_kind.f (k : Nat) (l0 : List (S43)) (a1 : Unit) : Option (Bool) := (IndexFunc_kind.f k l0 a1).bind fun t101 => (some (decide (t101 ≥ 0)))
theorem ContainsFunc_kind.mono : ∀ a0 a1 k, LeO (ContainsFunc_kind.f k a0 a1) (ContainsFunc_kind.f (k + 1) a0 a1) := by
 intro a0 a1 k
 unfold ContainsFunc_kind.f
 repeat' first
   | (with_reducible exact IndexFunc_kind.mono _ _ _)
   | (with_reducible exact LeO.refl _)
   | (with_reducible exact LeO.none _)
   | (with_reducible refine LeO.ite ?_ ?_)
   | (with_reducible refine LeO.bind ?_ (fun _ => ?_))
set_option maxHeartbeats 8000000 in
set_option maxRecDepth 100000 in
theorem ContainsFunc_kind.calls (k : Nat) (A0 : Option Addr) (c0 : Nat) (l0 : List (S43)) (a1 : Unit) (r : Bool) (w : World) (hr0 : Kd.C k43 w A0 l0.length l0) (hc0 : l0.length ≤ c0) (h : ContainsFunc_kind.f k l0 a1 = some r) :
  Calls Tryd.prog 73 #[.slice A0 l0.length c0, .func (.func 74) #[] #[]] w fun e w' => e = .returned (.bool r) ∧ Below w.heap.size w w' := by
 have HR0 := Aside0.mk hr0
 have HC0 := Aside0.mk hc0
 clear hr0 hc0
 have HB := Aside0.mk (Below.refl w.heap.size w)
 have H : ((IndexFunc_kind.f k l0 a1).bind fun t101 => (some (decide (t101 ≥ 0)))) = some r := h
 clear h
 replace H := Option.bind_eq_some_iff.mp H
 obtain ⟨t101, A30, H⟩ := H
 replace H : (some (decide (t101 ≥ 0))) = some r := H
 have A3 := Aside0.mk A30
 clear A30
 obtain rfl := Option.some.inj H
 go_enter Tryd.func73, Tryd.ntmps73
 go_wp2_with (first | ((with_reducible refine gate_callee (f := 78) rfl ?_); refine goesL_ (some 7) rfl rfl Tryd.func78 (by kernel_rfl) rfl #[.slice A0 l0.length c0, .func (.func 74) #[] #[]] rfl tm ?_; (with_reducible refine (IndexFunc_kind.calls k _ _ l0 a1 t101 _ (tc HR0.out) HC0.out A3.out).mono ?_); rintro e w4 ⟨rfl, hb⟩; refine ⟨_, rfl, ?_⟩; replace HB := Aside0.mk (below_step (tg HB.out) hb); (try clear hb)))
 go_ret
 exact ⟨te, tg HB.out⟩

end Go.Proofs.YtiphindialkmnaaDoor.X
end
section
namespace Go.Proofs.YtiphindialkmnaaDoor.X
open Go.RowKit Go.Proofs.YtiphindialkmnaaDoorW.PrintWords Go.Proofs.YtiphindialkmnaaDoorW.PrintLast Go.Proofs.YtiphindialkmnaaDoorW.PrintMore
attribute [local go_sem] max2_int min2_int max_two min_two max_three min_three max_four min_four
set_option linter.unusedVariables false
set_option linter.unusedSimpArgs false

/-! ### object_Check: function 37 -/
mutual
def object_Check.j0 : Nat → Unit → Bool → ByteArray → List ByteArray → List ByteArray → List Int → List Int → List (S43) → Option (Int)
 | 0, _, _, _, _, _, _, _, _ => none
 | k + 1, x3, x4, x102000, x102001, x102002, x102003, x102004, x102005 => if x4 = true then (some 5) else (if (x102003.length : Int) > 512 then (object_Check.j1 k x3 true x102000 x102001 x102002 x102003 x102004 x102005) else (object_Check.j1 k x3 (decide ((x102004.length : Int) > 128)) x102000 x102001 x102002 x102003 x102004 x102005))
def object_Check.j1 : Nat → Unit → Bool → ByteArray → List ByteArray → List ByteArray → List Int → List Int → List (S43) → Option (Int)
 | 0, _, _, _, _, _, _, _, _ => none
 | k + 1, x3, x21, x102000, x102001, x102002, x102003, x102004, x102005 => if x21 = true then (some 5) else ((object_Check_1.f x102000).bind fun t102 => (if t102 = true then (object_Check.j2 k true x102000 x102001 x102002 x102003 x102004 x102005) else ((ContainsFunc_long.f k x102001 x3).bind fun t103 => (if t103 = true then (object_Check.j2 k true x102000 x102001 x102002 x102003 x102004 x102005) else ((ContainsFunc_long.f k x102002 x3).bind fun t104 => (object_Check.j2 k t104 x102000 x102001 x102002 x102003 x102004 x102005))))))
def object_Check.j2 : Nat → Bool → ByteArray → List ByteArray → List ByteArray → List Int → List Int → List (S43) → Option (Int)
 | 0, _, _, _, _, _, _, _ => none
 | k + 1, x32, x102000, x102001, x102002, x102003, x102004, x102005 => if x32 = true then (some 5) else ((ContainsFunc_kind.f k x102005 ()).bind fun t105 => (if t105 = true then (some 2) else (some 0)))
end
def object_Check.f (k : Nat) (a0_0 : ByteArray) (l0_1 : List ByteArray) (l0_2 : List ByteArray) (l0_3 : List Int) (l0_4 : List Int) (l0_5 : List (S43)) : Option (Int) := if (l0_1.length : Int) > 8 then (object_Check.j0 k () true a0_0 l0_1 l0_2 l0_3 l0_4 l0_5) else (if (l0_2.length : Int) > 16 then (object_Check.j0 k () true a0_0 l0_1 l0_2 l0_3 l0_4 l0_5) else (object_Check.j0 k () (decide ((l0_5.length : Int) > 256)) a0_0 l0_1 l0_2 l0_3 l0_4 l0_5))
theorem object_Check.mono_l : ∀ k, (∀ y0 y1 y2 y3 y4 y5 y6 y7, LeO (object_Check.j0 k y0 y1 y2 y3 y4 y5 y6 y7) (object_Check.j0 (k + 1) y0 y1 y2 y3 y4 y5 y6 y7)) ∧ (∀ y0 y1 y2 y3 y4 y5 y6 y7, LeO (object_Check.j1 k y0 y1 y2 y3 y4 y5 y6 y7) (object_Check.j1 (k + 1) y0 y1 y2 y3 y4 y5 y6 y7)) ∧ (∀ y0 y1 y2 y3 y4 y5 y6, LeO (object_Check.j2 k y0 y1 y2 y3 y4 y5 y6) (object_Check.j2 (k + 1) y0 y1 y2 y3 y4 y5 y6))
 | 0 => ⟨fun _ _ _ _ _ _ _ _ r h => by simp [object_Check.j0] at h, fun _ _ _ _ _ _ _ _ r h => by simp [object_Check.j1] at h, fun _ _ _ _ _ _ _ r h => by simp [object_Check.j2] at h⟩
 | k + 1 => by
  obtain ⟨ih0, ih1, ih2⟩ := object_Check.mono_l k
  refine ⟨?_, ?_, ?_⟩
  ·intro y0 y1 y2 y3 y4 y5 y6 y7
   unfold object_Check.j0
   repeat' first
   | (with_reducible exact ih0 _ _ _ _ _ _ _ _)
   | (with_reducible exact ih1 _ _ _ _ _ _ _ _)
   | (with_reducible exact ih2 _ _ _ _ _ _ _)
   | (with_reducible exact ContainsFunc_kind.mono _ _ _)
   | (with_reducible exact ContainsFunc_long.mono _ _ _)
   | (with_reducible exact LeO.refl _)
   | (with_reducible exact LeO.none _)
   | (with_reducible refine LeO.ite ?_ ?_)
   | (with_reducible refine LeO.bind ?_ (fun _ => ?_))
  ·intro y0 y1 y2 y3 y4 y5 y6 y7
   unfold object_Check.j1
   repeat' first
   | (with_reducible exact ih0 _ _ _ _ _ _ _ _)
   | (with_reducible exact ih1 _ _ _ _ _ _ _ _)
   | (with_reducible exact ih2 _ _ _ _ _ _ _)
   | (with_reducible exact ContainsFunc_kind.mono _ _ _)
   | (with_reducible exact ContainsFunc_long.mono _ _ _)
   | (with_reducible exact LeO.refl _)
   | (with_reducible exact LeO.none _)
   | (with_reducible refine LeO.ite ?_ ?_)
   | (with_reducible refine LeO.bind ?_ (fun _ => ?_))
  ·intro y0 y1 y2 y3 y4 y5 y6
   unfold object_Check.j2
   repeat' first
   | (with_reducible exact ih0 _ _ _ _ _ _ _ _)
   | (with_reducible exact ih1 _ _ _ _ _ _ _ _)
   | (with_reducible exact ih2 _ _ _ _ _ _ _)
   | (with_reducible exact ContainsFunc_kind.mono _ _ _)
   | (with_reducible exact ContainsFunc_long.mono _ _ _)
   | (with_reducible exact LeO.refl _)
   | (with_reducible exact LeO.none _)
   | (with_reducible refine LeO.ite ?_ ?_)
   | (with_reducible refine LeO.bind ?_ (fun _ => ?_))
theorem object_Check.mono : ∀ a0 a1 a2 a3 a4 a5 k, LeO (object_Check.f k a0 a1 a2 a3 a4 a5) (object_Check.f (k + 1) a0 a1 a2 a3 a4 a5) := by
 intro a0 a1 a2 a3 a4 a5 k
 obtain ⟨ih0, ih1, ih2⟩ := object_Check.mono_l k
 unfold object_Check.f
 repeat' first
   | (with_reducible exact ih0 _ _ _ _ _ _ _ _)
   | (with_reducible exact ih1 _ _ _ _ _ _ _ _)
   | (with_reducible exact ih2 _ _ _ _ _ _ _)
   | (with_reducible exact ContainsFunc_kind.mono _ _ _)
   | (with_reducible exact ContainsFunc_long.mono _ _ _)
   | (with_reducible exact LeO.refl _)
   | (with_reducible exact LeO.none _)
   | (with_reducible refine LeO.ite ?_ ?_)
   | (with_reducible refine LeO.bind ?_ (fun _ => ?_))
set_option maxHeartbeats 8000000 in
set_option maxRecDepth 100000 in
theorem object_Check.calls (k : Nat) (a0_0 : ByteArray) (A0_1 : Option Addr) (c0_1 : Nat) (l0_1 : List ByteArray) (A0_2 : Option Addr) (c0_2 : Nat) (l0_2 : List ByteArray) (A0_3 : Option Addr) (c0_3 : Nat) (l0_3 : List Int) (A0_4 : Option Addr) (c0_4 : Nat) (l0_4 : List Int) (A0_5 : Option Addr) (c0_5 : Nat) (l0_5 : List (S43)) (r : Int) (w : World) (hr0_1 : Kd.C Kd.string w A0_1 l0_1.length l0_1) (hc0_1 : l0_1.length ≤ c0_1) (hr0_2 : Kd.C Kd.string w A0_2 l0_2.length l0_2) (hc0_2 : l0_2.length ≤ c0_2) (hr0_3 : Kd.C (Kd.int .u32) w A0_3 l0_3.length l0_3) (hc0_3 : l0_3.length ≤ c0_3) (hr0_4 : Kd.C (Kd.int .u32) w A0_4 l0_4.length l0_4) (hc0_4 : l0_4.length ≤ c0_4) (hr0_5 : Kd.C k43 w A0_5 l0_5.length l0_5) (hc0_5 : l0_5.length ≤ c0_5) (h : object_Check.f k a0_0 l0_1 l0_2 l0_3 l0_4 l0_5 = some r) :
  Calls Tryd.prog 37 #[.agg #[.string a0_0, .slice A0_1 l0_1.length c0_1, .slice A0_2 l0_2.length c0_2, .slice A0_3 l0_3.length c0_3, .slice A0_4 l0_4.length c0_4, .slice A0_5 l0_5.length c0_5]] w fun e w' => e = .returned (.int .i64 r) ∧ Below w.heap.size w w' := by
 have hu26 := Tryd.underlying26
 have HR0_1 := Aside0.mk hr0_1
 have HC0_1 := Aside0.mk hc0_1
 clear hr0_1 hc0_1
 have HR0_2 := Aside0.mk hr0_2
 have HC0_2 := Aside0.mk hc0_2
 clear hr0_2 hc0_2
 have HR0_3 := Aside0.mk hr0_3
 have HC0_3 := Aside0.mk hc0_3
 clear hr0_3 hc0_3
 have HR0_4 := Aside0.mk hr0_4
 have HC0_4 := Aside0.mk hc0_4
 clear hr0_4 hc0_4
 have HR0_5 := Aside0.mk hr0_5
 have HC0_5 := Aside0.mk hc0_5
 clear hr0_5 hc0_5
 have HB := Aside0.mk (Below.refl w.heap.size w)
 have H : (if (l0_1.length : Int) > 8 then (object_Check.j0 k () true a0_0 l0_1 l0_2 l0_3 l0_4 l0_5) else (if (l0_2.length : Int) > 16 then (object_Check.j0 k () true a0_0 l0_1 l0_2 l0_3 l0_4 l0_5) else (object_Check.j0 k () (decide ((l0_5.length : Int) > 256)) a0_0 l0_1 l0_2 l0_3 l0_4 l0_5))) = some r := h
 clear h
 have HC2 := Aside0.mk H
 clear H
 go_enter Tryd.func37, Tryd.ntmps37
 go_upto_region 2 with (first | ((with_reducible refine gate_dst (N := 1) rfl ?_); (try (refine gate_guard (by rfl) ?_; dsimp only)); refine box_event ?hg (N := 1) ?hd (cs := #[.string a0_0, .slice A0_1 l0_1.length c0_1, .slice A0_2 l0_2.length c0_2, .slice A0_3 l0_3.length c0_3, .slice A0_4 l0_4.length c0_4, .slice A0_5 l0_5.length c0_5]) (t := 26) ?hr ?_; (case hd => rfl); (case hg => rfl); (case hr => first | (go_simp; done) | (go_simp; rfl)); intro gb101 hg w3 hbox hb; have n0_ := Aside0.mk (below_step (tg HB.out) hb); have n1_ := Aside0.mk (hbox); have n2_ := Aside0.mk ((by rw [hg]; exact (below_size (tg HB.out)) : w.heap.size ≤ gb101)); have n3_ := Aside0.mk ((by rw [hg]; exact (below_size (tg HB.out)) : w.heap.size ≤ gb101)); clear HB; have HB := n0_; have BK101 := n1_; have GW101 := n2_; have GE101 := n3_; clear n0_ n1_ n2_ n3_; clear hb hbox hg))
 (try simp only [Act.put, List.setIfInBounds_toArray, List.set_cons_zero, List.set_cons_succ])
 go_cut [4] (fun v4 wc => ∃ (kq : Nat) (x4_1 : Bool), v4 = .bool x4_1 ∧ Aside0 (object_Check.j0 kq () x4_1 a0_0 l0_1 l0_2 l0_3 l0_4 l0_5 = some r) ∧ Aside0 (kq ≤ k) ∧ Aside0 (wc.heap[gb101]? = some (.cells #[.string a0_0, (.slice A0_1 l0_1.length c0_1), (.slice A0_2 l0_2.length c0_2), (.slice A0_3 l0_3.length c0_3), (.slice A0_4 l0_4.length c0_4), (.slice A0_5 l0_5.length c0_5)] 26 (0, 0))) ∧ Aside0 (Below w.heap.size w wc))
 case first =>
  have H := HC2.out
  clear HC2
  by_cases c4 : (l0_1.length : Int) > 8
  ·rw [if_pos c4] at H
   have c4b0 : decide (8 < (l0_1.length : Int)) = true := decide_eq_true c4
   have c4b1 : decide (8 < l0_1.length) = true := decide_eq_true (by omega)
   clear c4
   (first | rw [c4b0] | (simp only [i64_w, i32_w]; rw [c4b0]) | skip)
   have H' := Aside0.mk H
   clear H
   obtain ⟨hcz5_0, hcz5_1, hcz5_2, hcz5_3, hcz5_4, hcz5_5, hfz5_0, hfz5_1, hfz5_2, hfz5_3, hfz5_4, hfz5_5⟩ := cq6 BK101.out
   go_wp2
   go_meet
   case rel => exact ⟨_, (true), ts, H', ⟨tn⟩, ⟨tb BK101.out⟩, ⟨tg1 HB.out GE101.out⟩⟩
  ·rw [if_neg c4] at H
   have c4b0 : decide (8 < (l0_1.length : Int)) = false := decide_eq_false c4
   have c4b1 : decide (8 < l0_1.length) = false := decide_eq_false (by omega)
   clear c4
   (first | rw [c4b0] | (simp only [i64_w, i32_w]; rw [c4b0]) | skip)
   by_cases c6 : (l0_2.length : Int) > 16
   ·rw [if_pos c6] at H
    have c6b0 : decide (16 < (l0_2.length : Int)) = true := decide_eq_true c6
    have c6b1 : decide (16 < l0_2.length) = true := decide_eq_true (by omega)
    clear c6
    have H' := Aside0.mk H
    clear H
    obtain ⟨hcz7_0, hcz7_1, hcz7_2, hcz7_3, hcz7_4, hcz7_5, hfz7_0, hfz7_1, hfz7_2, hfz7_3, hfz7_4, hfz7_5⟩ := cq6 BK101.out
    go_wp2
    go_meet
    case rel => exact ⟨_, (true), ts, H', ⟨tn⟩, ⟨tb BK101.out⟩, ⟨tg1 HB.out GE101.out⟩⟩
   ·rw [if_neg c6] at H
    have c6b0 : decide (16 < (l0_2.length : Int)) = false := decide_eq_false c6
    have c6b1 : decide (16 < l0_2.length) = false := decide_eq_false (by omega)
    clear c6
    have H' := Aside0.mk H
    clear H
    obtain ⟨hcz8_0, hcz8_1, hcz8_2, hcz8_3, hcz8_4, hcz8_5, hfz8_0, hfz8_1, hfz8_2, hfz8_3, hfz8_4, hfz8_5⟩ := cq6 BK101.out
    go_wp2
    go_meet
    case rel => exact ⟨_, (decide ((l0_5.length : Int) > 256)), ts, H', ⟨tn⟩, ⟨tb BK101.out⟩, ⟨tg1 HB.out GE101.out⟩⟩
 case rest =>
  clear HC2
  try clear p2
  try clear c3
  try clear c4
  try clear c4b0
  try clear c4b1
  try clear c6
  try clear c6b0
  try clear c6b1
  try clear hcz5_0 hcz5_1 hcz5_2 hcz5_3 hcz5_4 hcz5_5 hfz5_0 hfz5_1 hfz5_2 hfz5_3 hfz5_4 hfz5_5
  try clear hcz7_0 hcz7_1 hcz7_2 hcz7_3 hcz7_4 hcz7_5 hfz7_0 hfz7_1 hfz7_2 hfz7_3 hfz7_4 hfz7_5
  try clear hcz8_0 hcz8_1 hcz8_2 hcz8_3 hcz8_4 hcz8_5 hfz8_0 hfz8_1 hfz8_2 hfz8_3 hfz8_4 hfz8_5
  obtain ⟨kq, x4_1, rfl, HA, HJ1, BK101, HB⟩ := hcut
  cases kq with
  | zero => exact absurd HA.out (by simp [object_Check.j0])
  | succ kj1 =>
   have H := HA.out
   clear HA
   simp only [object_Check.j0] at H
   by_cases c9 : x4_1 = true
   ·subst c9
    have H1 : (some 5) = some r := by rw [if_pos rfl] at H; exact H
    clear H
    have H := H1
    clear H1
    obtain rfl := Option.some.inj H
    go_wp2
    go_ret
    exact ⟨te, tg1 HB.out GE101.out⟩
   ·replace c9 := Bool.eq_false_iff.mpr c9
    subst c9
    have H1 : (if (l0_3.length : Int) > 512 then (object_Check.j1 kj1 () true a0_0 l0_1 l0_2 l0_3 l0_4 l0_5) else (object_Check.j1 kj1 () (decide ((l0_4.length : Int) > 128)) a0_0 l0_1 l0_2 l0_3 l0_4 l0_5)) = some r := by rw [if_neg (show ¬ (false = true) by decide)] at H; exact H
    clear H
    have H := H1
    clear H1
    have HC10 := Aside0.mk H
    clear H
    go_upto_region 4 with (fail)
    go_cut [21] (fun v21 wc => ∃ (kq : Nat) (x21_9 : Bool), v21 = .bool x21_9 ∧ Aside0 (object_Check.j1 kq () x21_9 a0_0 l0_1 l0_2 l0_3 l0_4 l0_5 = some r) ∧ Aside0 (kq ≤ kj1) ∧ Aside0 (wc.heap[gb101]? = some (.cells #[.string a0_0, (.slice A0_1 l0_1.length c0_1), (.slice A0_2 l0_2.length c0_2), (.slice A0_3 l0_3.length c0_3), (.slice A0_4 l0_4.length c0_4), (.slice A0_5 l0_5.length c0_5)] 26 (0, 0))) ∧ Aside0 (Below w.heap.size w wc))
    case first =>
     have H := HC10.out
     clear HC10
     by_cases c11 : (l0_3.length : Int) > 512
     ·rw [if_pos c11] at H
      have c11b0 : decide (512 < (l0_3.length : Int)) = true := decide_eq_true c11
      have c11b1 : decide (512 < l0_3.length) = true := decide_eq_true (by omega)
      clear c11
      (first | rw [c11b0] | (simp only [i64_w, i32_w]; rw [c11b0]) | skip)
      have H' := Aside0.mk H
      clear H
      obtain ⟨hcz12_0, hcz12_1, hcz12_2, hcz12_3, hcz12_4, hcz12_5, hfz12_0, hfz12_1, hfz12_2, hfz12_3, hfz12_4, hfz12_5⟩ := cq6 BK101.out
      go_wp2
      go_meet
      case rel => exact ⟨_, (true), ts, H', ⟨by have := HJ1.out; first | omega | exact Nat.le_refl _⟩, ⟨tb BK101.out⟩, ⟨tg1 HB.out GE101.out⟩⟩
     ·rw [if_neg c11] at H
      have c11b0 : decide (512 < (l0_3.length : Int)) = false := decide_eq_false c11
      have c11b1 : decide (512 < l0_3.length) = false := decide_eq_false (by omega)
      clear c11
      (first | rw [c11b0] | (simp only [i64_w, i32_w]; rw [c11b0]) | skip)
      have H' := Aside0.mk H
      clear H
      obtain ⟨hcz13_0, hcz13_1, hcz13_2, hcz13_3, hcz13_4, hcz13_5, hfz13_0, hfz13_1, hfz13_2, hfz13_3, hfz13_4, hfz13_5⟩ := cq6 BK101.out
      go_wp2
      go_meet
      case rel => exact ⟨_, (decide ((l0_4.length : Int) > 128)), ts, H', ⟨by have := HJ1.out; first | omega | exact Nat.le_refl _⟩, ⟨tb BK101.out⟩, ⟨tg1 HB.out GE101.out⟩⟩
    case rest =>
     clear HC10
     try clear c1
     try clear p2
     try clear c3
     try clear c4
     try clear c4b0
     try clear c4b1
     try clear c6
     try clear c6b0
     try clear c6b1
     try clear c9
     try clear c11
     try clear c11b0
     try clear c11b1
     try clear hcz12_0 hcz12_1 hcz12_2 hcz12_3 hcz12_4 hcz12_5 hfz12_0 hfz12_1 hfz12_2 hfz12_3 hfz12_4 hfz12_5
     try clear hcz13_0 hcz13_1 hcz13_2 hcz13_3 hcz13_4 hcz13_5 hfz13_0 hfz13_1 hfz13_2 hfz13_3 hfz13_4 hfz13_5
     try clear hcz5_0 hcz5_1 hcz5_2 hcz5_3 hcz5_4 hcz5_5 hfz5_0 hfz5_1 hfz5_2 hfz5_3 hfz5_4 hfz5_5
     try clear hcz7_0 hcz7_1 hcz7_2 hcz7_3 hcz7_4 hcz7_5 hfz7_0 hfz7_1 hfz7_2 hfz7_3 hfz7_4 hfz7_5
     try clear hcz8_0 hcz8_1 hcz8_2 hcz8_3 hcz8_4 hcz8_5 hfz8_0 hfz8_1 hfz8_2 hfz8_3 hfz8_4 hfz8_5
     try clear p2
     obtain ⟨kq, x21_9, rfl, HA, HJ9, BK101, HB⟩ := hcut
     cases kq with
     | zero => exact absurd HA.out (by simp [object_Check.j1])
     | succ kj9 =>
      have H := HA.out
      clear HA
      simp only [object_Check.j1] at H
      by_cases c14 : x21_9 = true
      ·subst c14
       have H1 : (some 5) = some r := by rw [if_pos rfl] at H; exact H
       clear H
       have H := H1
       clear H1
       obtain rfl := Option.some.inj H
       go_wp2
       go_ret
       exact ⟨te, tg1 HB.out GE101.out⟩
      ·replace c14 := Bool.eq_false_iff.mpr c14
       subst c14
       have H1 : ((object_Check_1.f a0_0).bind fun t102 => (if t102 = true then (object_Check.j2 kj9 true a0_0 l0_1 l0_2 l0_3 l0_4 l0_5) else ((ContainsFunc_long.f kj9 l0_1 ()).bind fun t103 => (if t103 = true then (object_Check.j2 kj9 true a0_0 l0_1 l0_2 l0_3 l0_4 l0_5) else ((ContainsFunc_long.f kj9 l0_2 ()).bind fun t104 => (object_Check.j2 kj9 t104 a0_0 l0_1 l0_2 l0_3 l0_4 l0_5)))))) = some r := by rw [if_neg (show ¬ (false = true) by decide)] at H; exact H
       clear H
       have H := H1
       clear H1
       have HC15 := Aside0.mk H
       clear H
       go_upto_region 6 with (fail)
       go_cut [32] (fun v32 wc => ∃ (kq : Nat) (x32_14 : Bool), v32 = .bool x32_14 ∧ Aside0 (object_Check.j2 kq x32_14 a0_0 l0_1 l0_2 l0_3 l0_4 l0_5 = some r) ∧ Aside0 (kq ≤ kj9) ∧ Aside0 (wc.heap[gb101]? = some (.cells #[.string a0_0, (.slice A0_1 l0_1.length c0_1), (.slice A0_2 l0_2.length c0_2), (.slice A0_3 l0_3.length c0_3), (.slice A0_4 l0_4.length c0_4), (.slice A0_5 l0_5.length c0_5)] 26 (0, 0))) ∧ Aside0 (Below w.heap.size w wc))
       case first =>
        have H := HC15.out
        clear HC15
        replace H := Option.bind_eq_some_iff.mp H
        obtain ⟨t102, A160, H⟩ := H
        replace H : (if t102 = true then (object_Check.j2 kj9 true a0_0 l0_1 l0_2 l0_3 l0_4 l0_5) else ((ContainsFunc_long.f kj9 l0_1 ()).bind fun t103 => (if t103 = true then (object_Check.j2 kj9 true a0_0 l0_1 l0_2 l0_3 l0_4 l0_5) else ((ContainsFunc_long.f kj9 l0_2 ()).bind fun t104 => (object_Check.j2 kj9 t104 a0_0 l0_1 l0_2 l0_3 l0_4 l0_5))))) = some r := H
        have A16 := Aside0.mk A160
        clear A160
        by_cases c17 : t102 = true
        ·subst c17
         have H1 : (object_Check.j2 kj9 true a0_0 l0_1 l0_2 l0_3 l0_4 l0_5) = some r := by rw [if_pos rfl] at H; exact H
         clear H
         have H := H1
         clear H1
         have H' := Aside0.mk H
         clear H
         obtain ⟨hcz18_0, hcz18_1, hcz18_2, hcz18_3, hcz18_4, hcz18_5, hfz18_0, hfz18_1, hfz18_2, hfz18_3, hfz18_4, hfz18_5⟩ := cq6 BK101.out
         go_wp2_with (first | (go_at_call 72; (with_reducible refine (object_Check_1.calls a0_0 true _ A16.out).mono ?_); rintro e w' ⟨rfl, ⟨nd, rfl⟩⟩))
         go_meet
         case rel => exact ⟨_, (true), ts, H', ⟨by have := HJ1.out; have := HJ9.out; first | omega | exact Nat.le_refl _⟩, ⟨tb BK101.out⟩, ⟨tg1 HB.out GE101.out⟩⟩
        ·replace c17 := Bool.eq_false_iff.mpr c17
         subst c17
         have H1 : ((ContainsFunc_long.f kj9 l0_1 ()).bind fun t103 => (if t103 = true then (object_Check.j2 kj9 true a0_0 l0_1 l0_2 l0_3 l0_4 l0_5) else ((ContainsFunc_long.f kj9 l0_2 ()).bind fun t104 => (object_Check.j2 kj9 t104 a0_0 l0_1 l0_2 l0_3 l0_4 l0_5)))) = some r := by rw [if_neg (show ¬ (false = true) by decide)] at H; exact H
         clear H
         have H := H1
         clear H1
         replace H := Option.bind_eq_some_iff.mp H
         obtain ⟨t103, A190, H⟩ := H
         replace H : (if t103 = true then (object_Check.j2 kj9 true a0_0 l0_1 l0_2 l0_3 l0_4 l0_5) else ((ContainsFunc_long.f kj9 l0_2 ()).bind fun t104 => (object_Check.j2 kj9 t104 a0_0 l0_1 l0_2 l0_3 l0_4 l0_5))) = some r := H
         have A19 := Aside0.mk A190
         clear A190
         by_cases c20 : t103 = true
         ·subst c20
          have H1 : (object_Check.j2 kj9 true a0_0 l0_1 l0_2 l0_3 l0_4 l0_5) = some r := by rw [if_pos rfl] at H; exact H
          clear H
          have H := H1
          clear H1
          have H' := Aside0.mk H
          clear H
          obtain ⟨hcz21_0, hcz21_1, hcz21_2, hcz21_3, hcz21_4, hcz21_5, hfz21_0, hfz21_1, hfz21_2, hfz21_3, hfz21_4, hfz21_5⟩ := cq6 BK101.out
          go_wp2_with (first | (go_at_call 72; (with_reducible refine (object_Check_1.calls a0_0 false _ A16.out).mono ?_); rintro e w' ⟨rfl, ⟨nd, rfl⟩⟩) | (go_at_call 56; (with_reducible refine (ContainsFunc_long.calls kj9 _ _ l0_1 () true _ (by repeat (first | exact (Kd.C_below HR0_1.out (tg1 HB.out GE101.out)) | (with_reducible refine Kd.C_alloc ?_ _) | (with_reducible refine Kd.C_drewN ?_ _) | (with_reducible refine Kd.C_drew ?_))) HC0_1.out A19.out).mono ?_); rintro e w' ⟨rfl, ⟨nd, rfl⟩⟩))
          go_meet
          case rel => exact ⟨_, (true), ts, H', ⟨by have := HJ1.out; have := HJ9.out; first | omega | exact Nat.le_refl _⟩, ⟨tb BK101.out⟩, ⟨tg1 HB.out GE101.out⟩⟩
         ·replace c20 := Bool.eq_false_iff.mpr c20
          subst c20
          have H1 : ((ContainsFunc_long.f kj9 l0_2 ()).bind fun t104 => (object_Check.j2 kj9 t104 a0_0 l0_1 l0_2 l0_3 l0_4 l0_5)) = some r := by rw [if_neg (show ¬ (false = true) by decide)] at H; exact H
          clear H
          have H := H1
          clear H1
          replace H := Option.bind_eq_some_iff.mp H
          obtain ⟨t104, A220, H⟩ := H
          replace H : (object_Check.j2 kj9 t104 a0_0 l0_1 l0_2 l0_3 l0_4 l0_5) = some r := H
          have A22 := Aside0.mk A220
          clear A220
          have H' := Aside0.mk H
          clear H
          obtain ⟨hcz23_0, hcz23_1, hcz23_2, hcz23_3, hcz23_4, hcz23_5, hfz23_0, hfz23_1, hfz23_2, hfz23_3, hfz23_4, hfz23_5⟩ := cq6 BK101.out
          go_wp2_with (first | (go_at_call 72; (with_reducible refine (object_Check_1.calls a0_0 false _ A16.out).mono ?_); rintro e w' ⟨rfl, ⟨nd, rfl⟩⟩) | (go_at_call 56; (with_reducible refine (ContainsFunc_long.calls kj9 _ _ l0_1 () false _ (by repeat (first | exact (Kd.C_below HR0_1.out (tg1 HB.out GE101.out)) | (with_reducible refine Kd.C_alloc ?_ _) | (with_reducible refine Kd.C_drewN ?_ _) | (with_reducible refine Kd.C_drew ?_))) HC0_1.out A19.out).mono ?_); rintro e w' ⟨rfl, ⟨nd, rfl⟩⟩) | (go_at_call 56; (with_reducible refine (ContainsFunc_long.calls kj9 _ _ l0_2 () t104 _ (by repeat (first | exact (Kd.C_below HR0_2.out (tg1 HB.out GE101.out)) | (with_reducible refine Kd.C_alloc ?_ _) | (with_reducible refine Kd.C_drewN ?_ _) | (with_reducible refine Kd.C_drew ?_))) HC0_2.out A22.out).mono ?_); rintro e w' ⟨rfl, ⟨nd, rfl⟩⟩))
          go_meet
          case rel => exact ⟨_, (t104), ts, H', ⟨by have := HJ1.out; have := HJ9.out; first | omega | exact Nat.le_refl _⟩, ⟨tb BK101.out⟩, ⟨tg1 HB.out GE101.out⟩⟩
       case rest =>
        clear HC15
        try clear c1
        try clear c2
        try clear p2
        try clear c3
        try clear c4
        try clear c4b0
        try clear c4b1
        try clear c6
        try clear c6b0
        try clear c6b1
        try clear c9
        try clear c11
        try clear c11b0
        try clear c11b1
        try clear c14
        try clear c17
        try clear c20
        try clear hcz12_0 hcz12_1 hcz12_2 hcz12_3 hcz12_4 hcz12_5 hfz12_0 hfz12_1 hfz12_2 hfz12_3 hfz12_4 hfz12_5
        try clear hcz13_0 hcz13_1 hcz13_2 hcz13_3 hcz13_4 hcz13_5 hfz13_0 hfz13_1 hfz13_2 hfz13_3 hfz13_4 hfz13_5
        try clear hcz18_0 hcz18_1 hcz18_2 hcz18_3 hcz18_4 hcz18_5 hfz18_0 hfz18_1 hfz18_2 hfz18_3 hfz18_4 hfz18_5
        try clear hcz21_0 hcz21_1 hcz21_2 hcz21_3 hcz21_4 hcz21_5 hfz21_0 hfz21_1 hfz21_2 hfz21_3 hfz21_4 hfz21_5
        try clear hcz23_0 hcz23_1 hcz23_2 hcz23_3 hcz23_4 hcz23_5 hfz23_0 hfz23_1 hfz23_2 hfz23_3 hfz23_4 hfz23_5
        try clear hcz5_0 hcz5_1 hcz5_2 hcz5_3 hcz5_4 hcz5_5 hfz5_0 hfz5_1 hfz5_2 hfz5_3 hfz5_4 hfz5_5
        try clear hcz7_0 hcz7_1 hcz7_2 hcz7_3 hcz7_4 hcz7_5 hfz7_0 hfz7_1 hfz7_2 hfz7_3 hfz7_4 hfz7_5
        try clear hcz8_0 hcz8_1 hcz8_2 hcz8_3 hcz8_4 hcz8_5 hfz8_0 hfz8_1 hfz8_2 hfz8_3 hfz8_4 hfz8_5
        try clear p2
        obtain ⟨kq, x32_14, rfl, HA, HJ14, BK101, HB⟩ := hcut
        cases kq with
        | zero => exact absurd HA.out (by simp [object_Check.j2])
        | succ kj14 =>
         have H := HA.out
         clear HA
         simp only [object_Check.j2] at H
         by_cases c24 : x32_14 = true
         ·subst c24
          have H1 : (some 5) = some r := by rw [if_pos rfl] at H; exact H
          clear H
          have H := H1
          clear H1
          obtain rfl := Option.some.inj H
          go_wp2
          go_ret
          exact ⟨te, tg1 HB.out GE101.out⟩
         ·replace c24 := Bool.eq_false_iff.mpr c24
          subst c24
          have H1 : ((ContainsFunc_kind.f kj14 l0_5 ()).bind fun t105 => (if t105 = true then (some 2) else (some 0))) = some r := by rw [if_neg (show ¬ (false = true) by decide)] at H; exact H
          clear H
          have H := H1
          clear H1
          replace H := Option.bind_eq_some_iff.mp H
          obtain ⟨t105, A250, H⟩ := H
          replace H : (if t105 = true then (some 2) else (some 0)) = some r := H
          have A25 := Aside0.mk A250
          clear A250
          by_cases c26 : t105 = true
          ·subst c26
           have H1 : (some 2) = some r := by rw [if_pos rfl] at H; exact H
           clear H
           have H := H1
           clear H1
           obtain rfl := Option.some.inj H
           obtain ⟨hcz27_0, hcz27_1, hcz27_2, hcz27_3, hcz27_4, hcz27_5, hfz27_0, hfz27_1, hfz27_2, hfz27_3, hfz27_4, hfz27_5⟩ := cq6 BK101.out
           go_wp2_with (first | ((with_reducible refine gate_callee (f := 73) rfl ?_); refine goesL_ (some 52) rfl rfl Tryd.func73 (by kernel_rfl) rfl #[.slice A0_5 l0_5.length c0_5, .func (.func 74) #[] #[]] rfl tm ?_; (with_reducible refine (ContainsFunc_kind.calls kj14 _ _ l0_5 () true _ (tc (Kd.C_below HR0_5.out HB.out)) HC0_5.out A25.out).mono ?_); rintro e w28 ⟨rfl, hb⟩; refine ⟨_, rfl, ?_⟩; replace BK101 := ba BK101.out hb; replace HB := Aside0.mk (below_step (tg1 HB.out GE101.out) hb); (try clear hb)))
           go_ret
           exact ⟨te, tg1 HB.out GE101.out⟩
          ·replace c26 := Bool.eq_false_iff.mpr c26
           subst c26
           have H1 : (some 0) = some r := by rw [if_neg (show ¬ (false = true) by decide)] at H; exact H
           clear H
           have H := H1
           clear H1
           obtain rfl := Option.some.inj H
           obtain ⟨hcz29_0, hcz29_1, hcz29_2, hcz29_3, hcz29_4, hcz29_5, hfz29_0, hfz29_1, hfz29_2, hfz29_3, hfz29_4, hfz29_5⟩ := cq6 BK101.out
           go_wp2_with (first | ((with_reducible refine gate_callee (f := 73) rfl ?_); refine goesL_ (some 52) rfl rfl Tryd.func73 (by kernel_rfl) rfl #[.slice A0_5 l0_5.length c0_5, .func (.func 74) #[] #[]] rfl tm ?_; (with_reducible refine (ContainsFunc_kind.calls kj14 _ _ l0_5 () false _ (tc (Kd.C_below HR0_5.out HB.out)) HC0_5.out A25.out).mono ?_); rintro e w30 ⟨rfl, hb⟩; refine ⟨_, rfl, ?_⟩; replace BK101 := ba BK101.out hb; replace HB := Aside0.mk (below_step (tg1 HB.out GE101.out) hb); (try clear hb)))
           go_ret
           exact ⟨te, tg1 HB.out GE101.out⟩

end Go.Proofs.YtiphindialkmnaaDoor.X
end
section
namespace Go.Proofs.YtiphindialkmnaaDoor.X
open Go.RowKit Go.Proofs.YtiphindialkmnaaDoorW.PrintWords Go.Proofs.YtiphindialkmnaaDoorW.PrintLast Go.Proofs.YtiphindialkmnaaDoorW.PrintMore
attribute [local go_sem] max2_int min2_int max_two min_two max_three min_three max_four min_four
set_option linter.unusedVariables false
set_option linter.unusedSimpArgs false

/-! ### valid_words: function 39 -/
mutual
def valid_words.j0 : Nat → Bool → ByteArray → List ByteArray → List ByteArray → List Int → List Int → List (S43) → Option (Int × Int)
 | 0, _, _, _, _, _, _, _ => none
 | k + 1, x20, x102000, x102001, x102002, x102003, x102004, x102005 => if x20 = true then (some (4, 0)) else (valid_words.l0 k x102003 (x102003.length : Int) 0)
def valid_words.l0 : Nat → List Int → Int → Int → Option (Int × Int)
 | 0, _, _, _ => none
 | k + 1, x22, x23, x24 => if x24 < x23 then (if 0 ≤ x24 then (if x24 < (x22.length : Int) then ((isa_Decode.f k (rd x22 x24)).bind fun bt103 => (if bt103.2.2.2.2.2 = 0 then (if bt103.1 = 21 then (some (5, x24)) else (valid_words.l0 k x22 x23 (wrap64 (x24 + 1)))) else (some (5, x24)))) else (none)) else (none)) else (some (0, 0))
end
def valid_words.f (k : Nat) (a0_0 : ByteArray) (l0_1 : List ByteArray) (l0_2 : List ByteArray) (l0_3 : List Int) (l0_4 : List Int) (l0_5 : List (S43)) : Option (Int × Int) := if (l0_3.length : Int) = 0 then (valid_words.j0 k true a0_0 l0_1 l0_2 l0_3 l0_4 l0_5) else (valid_words.j0 k (decide ((l0_3.length : Int) < (l0_1.length : Int))) a0_0 l0_1 l0_2 l0_3 l0_4 l0_5)
theorem valid_words.mono_l : ∀ k, (∀ y0 y1 y2 y3 y4 y5 y6, LeO (valid_words.j0 k y0 y1 y2 y3 y4 y5 y6) (valid_words.j0 (k + 1) y0 y1 y2 y3 y4 y5 y6)) ∧ (∀ y0 y1 y2, LeO (valid_words.l0 k y0 y1 y2) (valid_words.l0 (k + 1) y0 y1 y2))
 | 0 => ⟨fun _ _ _ _ _ _ _ r h => by simp [valid_words.j0] at h, fun _ _ _ r h => by simp [valid_words.l0] at h⟩
 | k + 1 => by
  obtain ⟨ih0, ih1⟩ := valid_words.mono_l k
  refine ⟨?_, ?_⟩
  ·intro y0 y1 y2 y3 y4 y5 y6
   unfold valid_words.j0
   repeat' first
   | (with_reducible exact ih0 _ _ _ _ _ _ _)
   | (with_reducible exact ih1 _ _ _)
   | (with_reducible exact isa_Decode.mono _ _)
   | (with_reducible exact LeO.refl _)
   | (with_reducible exact LeO.none _)
   | (with_reducible refine LeO.ite ?_ ?_)
   | (with_reducible refine LeO.bind ?_ (fun _ => ?_))
  ·intro y0 y1 y2
   unfold valid_words.l0
   repeat' first
   | (with_reducible exact ih0 _ _ _ _ _ _ _)
   | (with_reducible exact ih1 _ _ _)
   | (with_reducible exact isa_Decode.mono _ _)
   | (with_reducible exact LeO.refl _)
   | (with_reducible exact LeO.none _)
   | (with_reducible refine LeO.ite ?_ ?_)
   | (with_reducible refine LeO.bind ?_ (fun _ => ?_))
theorem valid_words.mono : ∀ a0 a1 a2 a3 a4 a5 k, LeO (valid_words.f k a0 a1 a2 a3 a4 a5) (valid_words.f (k + 1) a0 a1 a2 a3 a4 a5) := by
 intro a0 a1 a2 a3 a4 a5 k
 obtain ⟨ih0, ih1⟩ := valid_words.mono_l k
 unfold valid_words.f
 repeat' first
   | (with_reducible exact ih0 _ _ _ _ _ _ _)
   | (with_reducible exact ih1 _ _ _)
   | (with_reducible exact isa_Decode.mono _ _)
   | (with_reducible exact LeO.refl _)
   | (with_reducible exact LeO.none _)
   | (with_reducible refine LeO.ite ?_ ?_)
   | (with_reducible refine LeO.bind ?_ (fun _ => ?_))
set_option maxHeartbeats 8000000 in
set_option maxRecDepth 100000 in
theorem valid_words.calls (k : Nat) (a0_0 : ByteArray) (A0_1 : Option Addr) (c0_1 : Nat) (l0_1 : List ByteArray) (A0_2 : Option Addr) (c0_2 : Nat) (l0_2 : List ByteArray) (A0_3 : Option Addr) (c0_3 : Nat) (l0_3 : List Int) (A0_4 : Option Addr) (c0_4 : Nat) (l0_4 : List Int) (A0_5 : Option Addr) (c0_5 : Nat) (l0_5 : List (S43)) (r1 : Int) (r2 : Int) (w : World) (hr0_1 : Kd.C Kd.string w A0_1 l0_1.length l0_1) (hc0_1 : l0_1.length ≤ c0_1) (hr0_2 : Kd.C Kd.string w A0_2 l0_2.length l0_2) (hc0_2 : l0_2.length ≤ c0_2) (hr0_3 : Kd.C (Kd.int .u32) w A0_3 l0_3.length l0_3) (hc0_3 : l0_3.length ≤ c0_3) (hr0_4 : Kd.C (Kd.int .u32) w A0_4 l0_4.length l0_4) (hc0_4 : l0_4.length ≤ c0_4) (hr0_5 : Kd.C k43 w A0_5 l0_5.length l0_5) (hc0_5 : l0_5.length ≤ c0_5) (h : valid_words.f k a0_0 l0_1 l0_2 l0_3 l0_4 l0_5 = some (r1, r2)) :
  Calls Tryd.prog 39 #[.agg #[.string a0_0, .slice A0_1 l0_1.length c0_1, .slice A0_2 l0_2.length c0_2, .slice A0_3 l0_3.length c0_3, .slice A0_4 l0_4.length c0_4, .slice A0_5 l0_5.length c0_5]] w fun e w' => e = .returned (.tuple #[.int .u8 r1, .int .i64 r2]) ∧ Below w.heap.size w w' := by
 have hu26 := Tryd.underlying26
 have hu47 := Tryd.underlying47
 have HR0_1 := Aside0.mk hr0_1
 have HC0_1 := Aside0.mk hc0_1
 clear hr0_1 hc0_1
 have HR0_2 := Aside0.mk hr0_2
 have HC0_2 := Aside0.mk hc0_2
 clear hr0_2 hc0_2
 have HR0_3 := Aside0.mk hr0_3
 have HC0_3 := Aside0.mk hc0_3
 clear hr0_3 hc0_3
 have HR0_4 := Aside0.mk hr0_4
 have HC0_4 := Aside0.mk hc0_4
 clear hr0_4 hc0_4
 have HR0_5 := Aside0.mk hr0_5
 have HC0_5 := Aside0.mk hc0_5
 clear hr0_5 hc0_5
 have HB := Aside0.mk (Below.refl w.heap.size w)
 have H : (if (l0_3.length : Int) = 0 then (valid_words.j0 k true a0_0 l0_1 l0_2 l0_3 l0_4 l0_5) else (valid_words.j0 k (decide ((l0_3.length : Int) < (l0_1.length : Int))) a0_0 l0_1 l0_2 l0_3 l0_4 l0_5)) = some (r1, r2) := h
 clear h
 have HC2 := Aside0.mk H
 clear H
 go_enter Tryd.func39, Tryd.ntmps39
 go_upto_region 1 with (first | ((with_reducible refine gate_dst (N := 1) rfl ?_); (try (refine gate_guard (by rfl) ?_; dsimp only)); refine box_event ?hg (N := 1) ?hd (cs := #[.string a0_0, .slice A0_1 l0_1.length c0_1, .slice A0_2 l0_2.length c0_2, .slice A0_3 l0_3.length c0_3, .slice A0_4 l0_4.length c0_4, .slice A0_5 l0_5.length c0_5]) (t := 26) ?hr ?_; (case hd => rfl); (case hg => rfl); (case hr => first | (go_simp; done) | (go_simp; rfl)); intro gb101 hg w3 hbox hb; have n0_ := Aside0.mk (below_step (tg HB.out) hb); have n1_ := Aside0.mk (hbox); have n2_ := Aside0.mk ((by rw [hg]; exact (below_size (tg HB.out)) : w.heap.size ≤ gb101)); have n3_ := Aside0.mk ((by rw [hg]; exact (below_size (tg HB.out)) : w.heap.size ≤ gb101)); clear HB; have HB := n0_; have BK101 := n1_; have GW101 := n2_; have GE101 := n3_; clear n0_ n1_ n2_ n3_; clear hb hbox hg))
 (try simp only [Act.put, List.setIfInBounds_toArray, List.set_cons_zero, List.set_cons_succ])
 go_cut [20] (fun v20 wc => ∃ (kq : Nat) (x20_1 : Bool), v20 = .bool x20_1 ∧ Aside0 (valid_words.j0 kq x20_1 a0_0 l0_1 l0_2 l0_3 l0_4 l0_5 = some (r1, r2)) ∧ Aside0 (kq ≤ k) ∧ Aside0 (wc.heap[gb101]? = some (.cells #[.string a0_0, (.slice A0_1 l0_1.length c0_1), (.slice A0_2 l0_2.length c0_2), (.slice A0_3 l0_3.length c0_3), (.slice A0_4 l0_4.length c0_4), (.slice A0_5 l0_5.length c0_5)] 26 (0, 0))) ∧ Aside0 (Below w.heap.size w wc))
 case first =>
  have H := HC2.out
  clear HC2
  by_cases c4 : (l0_3.length : Int) = 0
  ·rw [if_pos c4] at H
   have c4b0 : ((l0_3.length : Int) == 0) = true := beq_iff_eq.mpr c4
   have c4b1 : ((l0_3.length : Int) != 0) = false := bne_eq_false_iff_eq.mpr c4
   clear c4
   (first | rw [c4b0] | (simp only [i64_w, i32_w]; rw [c4b0]) | skip)
   have H' := Aside0.mk H
   clear H
   obtain ⟨hcz5_0, hcz5_1, hcz5_2, hcz5_3, hcz5_4, hcz5_5, hfz5_0, hfz5_1, hfz5_2, hfz5_3, hfz5_4, hfz5_5⟩ := cq6 BK101.out
   go_wp2
   go_meet
   case rel => exact ⟨_, (true), ts, H', ⟨tn⟩, ⟨tb BK101.out⟩, ⟨tg1 HB.out GE101.out⟩⟩
  ·rw [if_neg c4] at H
   have c4b0 : ((l0_3.length : Int) == 0) = false := beq_eq_false_iff_ne.mpr c4
   have c4b1 : ((l0_3.length : Int) != 0) = true := bne_iff_ne.mpr c4
   have c4b2 : ¬ (l0_3 = []) := fun h_ => c4 (by rw [h_]; rfl)
   (first | rw [c4b0] | (simp only [i64_w, i32_w]; rw [c4b0]) | skip)
   have H' := Aside0.mk H
   clear H
   obtain ⟨hcz6_0, hcz6_1, hcz6_2, hcz6_3, hcz6_4, hcz6_5, hfz6_0, hfz6_1, hfz6_2, hfz6_3, hfz6_4, hfz6_5⟩ := cq6 BK101.out
   go_wp2
   go_meet
   case rel => exact ⟨_, (decide ((l0_3.length : Int) < (l0_1.length : Int))), ts, H', ⟨tn⟩, ⟨tb BK101.out⟩, ⟨tg1 HB.out GE101.out⟩⟩
 case rest =>
  clear HC2
  try clear p2
  try clear c3
  try clear c4
  try clear c4b0
  try clear c4b1
  try clear c4b2
  try clear hcz5_0 hcz5_1 hcz5_2 hcz5_3 hcz5_4 hcz5_5 hfz5_0 hfz5_1 hfz5_2 hfz5_3 hfz5_4 hfz5_5
  try clear hcz6_0 hcz6_1 hcz6_2 hcz6_3 hcz6_4 hcz6_5 hfz6_0 hfz6_1 hfz6_2 hfz6_3 hfz6_4 hfz6_5
  obtain ⟨kq, x20_1, rfl, HA, HJ1, BK101, HB⟩ := hcut
  cases kq with
  | zero => exact absurd HA.out (by simp [valid_words.j0])
  | succ kj1 =>
   have H := HA.out
   clear HA
   simp only [valid_words.j0] at H
   by_cases c7 : x20_1 = true
   ·subst c7
    have H1 : (some (4, 0)) = some (r1, r2) := by rw [if_pos rfl] at H; exact H
    clear H
    have H := H1
    clear H1
    simp only [Option.some.injEq, Prod.mk.injEq] at H
    obtain ⟨rfl, rfl⟩ := H
    go_wp2
    go_ret2
    exact ⟨te, tg1 HB.out GE101.out⟩
   ·replace c7 := Bool.eq_false_iff.mpr c7
    subst c7
    have H1 : (valid_words.l0 kj1 l0_3 (l0_3.length : Int) 0) = some (r1, r2) := by rw [if_neg (show ¬ (false = true) by decide)] at H; exact H
    clear H
    have H := H1
    clear H1
    have H' := Aside0.mk H
    clear H
    obtain ⟨hcz8_0, hcz8_1, hcz8_2, hcz8_3, hcz8_4, hcz8_5, hfz8_0, hfz8_1, hfz8_2, hfz8_3, hfz8_4, hfz8_5⟩ := cq6 BK101.out
    go_wp2
    go_loopg [24] kj1 (fun kq v24 w' => ∃ (x24_2 : Int), v24 = .int .i64 x24_2 ∧ Aside0 (valid_words.l0 kq l0_3 (l0_3.length : Int) x24_2 = some (r1, r2)) ∧ Aside0 (kq ≤ kj1) ∧ Aside0 (w'.heap[gb101]? = some (.cells #[.string a0_0, (.slice A0_1 l0_1.length c0_1), (.slice A0_2 l0_2.length c0_2), (.slice A0_3 l0_3.length c0_3), (.slice A0_4 l0_4.length c0_4), (.slice A0_5 l0_5.length c0_5)] 26 (0, 0))) ∧ Aside0 (Below w.heap.size w w'))
    case atStart => exact ⟨(0), ts, H', ⟨Nat.le_refl _⟩, ⟨tb BK101.out⟩, ⟨tg1 HB.out GE101.out⟩⟩
    case round =>
     clear H'
     try clear p2
     try clear c3
     try clear c4
     try clear c4b0
     try clear c4b1
     try clear c4b2
     try clear c7
     try clear hcz5_0 hcz5_1 hcz5_2 hcz5_3 hcz5_4 hcz5_5 hfz5_0 hfz5_1 hfz5_2 hfz5_3 hfz5_4 hfz5_5
     try clear hcz6_0 hcz6_1 hcz6_2 hcz6_3 hcz6_4 hcz6_5 hfz6_0 hfz6_1 hfz6_2 hfz6_3 hfz6_4 hfz6_5
     try clear hcz8_0 hcz8_1 hcz8_2 hcz8_3 hcz8_4 hcz8_5 hfz8_0 hfz8_1 hfz8_2 hfz8_3 hfz8_4 hfz8_5
     try clear p2
     obtain ⟨x24_2, rfl, HA, HK2, BK101, HB⟩ := hrel
     cases gk with
     | zero => exact absurd HA.out (by simp [valid_words.l0])
     | succ k2 =>
      have H := HA.out
      clear HA
      simp only [valid_words.l0] at H
      by_cases c9 : x24_2 < (l0_3.length : Int)
      ·rw [if_pos c9] at H
       have c9b0 : decide (x24_2 < (l0_3.length : Int)) = true := decide_eq_true c9
       clear c9
       by_cases c10 : 0 ≤ x24_2
       ·rw [if_pos c10] at H
        have c10b0 : decide (0 ≤ x24_2) = true := decide_eq_true c10
        clear c10
        by_cases c11 : x24_2 < (l0_3.length : Int)
        ·rw [if_pos c11] at H
         have c11b0 : decide (x24_2 < (l0_3.length : Int)) = true := decide_eq_true c11
         clear c11
         replace H := Option.bind_eq_some_iff.mp H
         obtain ⟨⟨t103, t104, t105, t106, t107, t108⟩, A120, H⟩ := H
         replace H : (if t108 = 0 then (if t103 = 21 then (some (5, x24_2)) else (valid_words.l0 k2 l0_3 (l0_3.length : Int) (wrap64 (x24_2 + 1)))) else (some (5, x24_2))) = some (r1, r2) := H
         have A12 := Aside0.mk A120
         clear A120
         by_cases c13 : t108 = 0
         ·rw [if_pos c13] at H
          have c13b0 : (t108 == 0) = true := beq_iff_eq.mpr c13
          have c13b1 : (t108 != 0) = false := bne_eq_false_iff_eq.mpr c13
          clear c13
          by_cases c14 : t103 = 21
          ·rw [if_pos c14] at H
           have c14b0 : (t103 == 21) = true := beq_iff_eq.mpr c14
           have c14b1 : (t103 != 21) = false := bne_eq_false_iff_eq.mpr c14
           clear c14
           simp only [Option.some.injEq, Prod.mk.injEq] at H
           obtain ⟨rfl, rfl⟩ := H
           have p102 : 0 ≤ (x24_2 : Int) := td
           have q102 : x24_2 < (l0_3.length : Int) := td
           obtain ⟨ad102, e102, hx102_0⟩ := Kd.at_int HR0_3.out x24_2 p102 q102
           cases e102
           replace hx102_0 := (HB.out.cell (World.block_lt_of_cell? w _ hx102_0)).trans hx102_0
           replace p102 := eq_true p102
           replace q102 := eq_true q102
           go_wp2_with (first | ((with_reducible refine gate_callee (f := 21) rfl ?_); refine goesL_ (some 31) rfl rfl Tryd.func21 (by kernel_rfl) rfl #[.int .u32 (rd l0_3 x24_2)] rfl tm ?_; (with_reducible refine (isa_Decode.calls k2 (rd l0_3 x24_2) t103 t104 t105 t106 t107 t108 _ A12.out).mono ?_); rintro e w15 ⟨rfl, hb⟩; refine ⟨_, rfl, ?_⟩; replace BK101 := ba BK101.out hb; replace HB := Aside0.mk (below_step (tg1 HB.out GE101.out) hb); (try clear hb)) | ((with_reducible refine gate_dst (N := 6) rfl ?_); (try (refine gate_guard (by rfl) ?_; dsimp only)); refine box_event ?hg (N := 6) ?hd (cs := #[.int .u8 0, .int .u8 0, .int .u8 0, .int .u8 0, .int .i32 0]) (t := 47) ?hr ?_; (case hd => rfl); (case hg => rfl); (case hr => first | (go_simp; done) | (go_simp; rfl)); intro gb109 hg w16 hbox hb; have n0_ := ba BK101.out hb; have n1_ := Aside0.mk (below_step (tg1 HB.out GE101.out) hb); have n2_ := Aside0.mk (hbox); have n3_ := Aside0.mk ((by rw [hg]; exact (below_size (tg1 HB.out GE101.out)) : w.heap.size ≤ gb109)); have n4_ := Aside0.mk ((by rw [hg]; exact (below_size (tg1 HB.out GE101.out)) : w.heap.size ≤ gb109)); have n5_ := Aside0.mk ((by rw [hg]; exact Nat.ne_of_lt (blk_lt (g := gb101) (o := .cells #[.string a0_0, .slice A0_1 l0_1.length c0_1, .slice A0_2 l0_2.length c0_2, .slice (some ad102) l0_3.length c0_3, .slice A0_4 l0_4.length c0_4, .slice A0_5 l0_5.length c0_5] 26 (0, 0)) (tb BK101.out)) : gb101 ≠ gb109)); have n6_ := Aside0.mk ((by rw [hg]; exact Nat.ne_of_gt (blk_lt (g := gb101) (o := .cells #[.string a0_0, .slice A0_1 l0_1.length c0_1, .slice A0_2 l0_2.length c0_2, .slice (some ad102) l0_3.length c0_3, .slice A0_4 l0_4.length c0_4, .slice A0_5 l0_5.length c0_5] 26 (0, 0)) (tb BK101.out)) : gb109 ≠ gb101)); clear BK101; clear HB; have BK101 := n0_; have HB := n1_; have BK109 := n2_; have GW109 := n3_; have GE109 := n4_; have NB101_109 := n5_; have NB109_101 := n6_; clear n0_ n1_ n2_ n3_ n4_ n5_ n6_; clear hb hbox hg; have hnb17 := NB109_101.out; have hnc17 := NB101_109.out; obtain ⟨hcz18_0, hcz18_1, hcz18_2, hcz18_3, hcz18_4, hfz18_0, hfz18_1, hfz18_2, hfz18_3, hfz18_4⟩ := cq5 BK109.out))
           go_ret2
           exact ⟨te, tg2 HB.out GE101.out GE109.out⟩
          ·rw [if_neg c14] at H
           have c14b0 : (t103 == 21) = false := beq_eq_false_iff_ne.mpr c14
           have c14b1 : (t103 != 21) = true := bne_iff_ne.mpr c14
           have H' := Aside0.mk H
           clear H
           have p102 : 0 ≤ (x24_2 : Int) := td
           have q102 : x24_2 < (l0_3.length : Int) := td
           obtain ⟨ad102, e102, hx102_0⟩ := Kd.at_int HR0_3.out x24_2 p102 q102
           cases e102
           replace hx102_0 := (HB.out.cell (World.block_lt_of_cell? w _ hx102_0)).trans hx102_0
           replace p102 := eq_true p102
           replace q102 := eq_true q102
           go_wp2_with (first | ((with_reducible refine gate_callee (f := 21) rfl ?_); refine goesL_ (some 31) rfl rfl Tryd.func21 (by kernel_rfl) rfl #[.int .u32 (rd l0_3 x24_2)] rfl tm ?_; (with_reducible refine (isa_Decode.calls k2 (rd l0_3 x24_2) t103 t104 t105 t106 t107 t108 _ A12.out).mono ?_); rintro e w19 ⟨rfl, hb⟩; refine ⟨_, rfl, ?_⟩; replace BK101 := ba BK101.out hb; replace HB := Aside0.mk (below_step (tg1 HB.out GE101.out) hb); (try clear hb)) | ((with_reducible refine gate_dst (N := 6) rfl ?_); (try (refine gate_guard (by rfl) ?_; dsimp only)); refine box_event ?hg (N := 6) ?hd (cs := #[.int .u8 0, .int .u8 0, .int .u8 0, .int .u8 0, .int .i32 0]) (t := 47) ?hr ?_; (case hd => rfl); (case hg => rfl); (case hr => first | (go_simp; done) | (go_simp; rfl)); intro gb109 hg w20 hbox hb; have n0_ := ba BK101.out hb; have n1_ := Aside0.mk (below_step (tg1 HB.out GE101.out) hb); have n2_ := Aside0.mk (hbox); have n3_ := Aside0.mk ((by rw [hg]; exact (below_size (tg1 HB.out GE101.out)) : w.heap.size ≤ gb109)); have n4_ := Aside0.mk ((by rw [hg]; exact (below_size (tg1 HB.out GE101.out)) : w.heap.size ≤ gb109)); have n5_ := Aside0.mk ((by rw [hg]; exact Nat.ne_of_lt (blk_lt (g := gb101) (o := .cells #[.string a0_0, .slice A0_1 l0_1.length c0_1, .slice A0_2 l0_2.length c0_2, .slice (some ad102) l0_3.length c0_3, .slice A0_4 l0_4.length c0_4, .slice A0_5 l0_5.length c0_5] 26 (0, 0)) (tb BK101.out)) : gb101 ≠ gb109)); have n6_ := Aside0.mk ((by rw [hg]; exact Nat.ne_of_gt (blk_lt (g := gb101) (o := .cells #[.string a0_0, .slice A0_1 l0_1.length c0_1, .slice A0_2 l0_2.length c0_2, .slice (some ad102) l0_3.length c0_3, .slice A0_4 l0_4.length c0_4, .slice A0_5 l0_5.length c0_5] 26 (0, 0)) (tb BK101.out)) : gb109 ≠ gb101)); clear BK101; clear HB; have BK101 := n0_; have HB := n1_; have BK109 := n2_; have GW109 := n3_; have GE109 := n4_; have NB101_109 := n5_; have NB109_101 := n6_; clear n0_ n1_ n2_ n3_ n4_ n5_ n6_; clear hb hbox hg; have hnb21 := NB109_101.out; have hnc21 := NB101_109.out; obtain ⟨hcz22_0, hcz22_1, hcz22_2, hcz22_3, hcz22_4, hfz22_0, hfz22_1, hfz22_2, hfz22_3, hfz22_4⟩ := cq5 BK109.out))
           go_roundg k2
           case measure => have := HJ1.out; have := HK2.out; omega
           case rel => exact ⟨(wrap64 (x24_2 + 1)), ts, H', ⟨by have := HJ1.out; have := HK2.out; omega⟩, ⟨by (with_reducible repeat (first | refine blk_drewN ?_ _ | refine blk_drew ?_ | refine blk_alloc ?_ _)); refine blk_far ?_ NB101_109.out _; (with_reducible repeat (first | refine blk_drewN ?_ _ | refine blk_drew ?_ | refine blk_alloc ?_ _)); refine blk_far ?_ NB101_109.out _; (with_reducible repeat (first | refine blk_drewN ?_ _ | refine blk_drew ?_ | refine blk_alloc ?_ _)); refine blk_far ?_ NB101_109.out _; (with_reducible repeat (first | refine blk_drewN ?_ _ | refine blk_drew ?_ | refine blk_alloc ?_ _)); refine blk_far ?_ NB101_109.out _; (with_reducible repeat (first | refine blk_drewN ?_ _ | refine blk_drew ?_ | refine blk_alloc ?_ _)); refine blk_far ?_ NB101_109.out _; (with_reducible repeat (first | refine blk_drewN ?_ _ | refine blk_drew ?_ | refine blk_alloc ?_ _)); exact BK101.out⟩, ⟨tg2 HB.out GE101.out GE109.out⟩⟩
         ·rw [if_neg c13] at H
          have c13b0 : (t108 == 0) = false := beq_eq_false_iff_ne.mpr c13
          have c13b1 : (t108 != 0) = true := bne_iff_ne.mpr c13
          simp only [Option.some.injEq, Prod.mk.injEq] at H
          obtain ⟨rfl, rfl⟩ := H
          have p102 : 0 ≤ (x24_2 : Int) := td
          have q102 : x24_2 < (l0_3.length : Int) := td
          obtain ⟨ad102, e102, hx102_0⟩ := Kd.at_int HR0_3.out x24_2 p102 q102
          cases e102
          replace hx102_0 := (HB.out.cell (World.block_lt_of_cell? w _ hx102_0)).trans hx102_0
          replace p102 := eq_true p102
          replace q102 := eq_true q102
          go_wp2_with (first | ((with_reducible refine gate_callee (f := 21) rfl ?_); refine goesL_ (some 31) rfl rfl Tryd.func21 (by kernel_rfl) rfl #[.int .u32 (rd l0_3 x24_2)] rfl tm ?_; (with_reducible refine (isa_Decode.calls k2 (rd l0_3 x24_2) t103 t104 t105 t106 t107 t108 _ A12.out).mono ?_); rintro e w23 ⟨rfl, hb⟩; refine ⟨_, rfl, ?_⟩; replace BK101 := ba BK101.out hb; replace HB := Aside0.mk (below_step (tg1 HB.out GE101.out) hb); (try clear hb)) | ((with_reducible refine gate_dst (N := 6) rfl ?_); (try (refine gate_guard (by rfl) ?_; dsimp only)); refine box_event ?hg (N := 6) ?hd (cs := #[.int .u8 0, .int .u8 0, .int .u8 0, .int .u8 0, .int .i32 0]) (t := 47) ?hr ?_; (case hd => rfl); (case hg => rfl); (case hr => first | (go_simp; done) | (go_simp; rfl)); intro gb109 hg w24 hbox hb; have n0_ := ba BK101.out hb; have n1_ := Aside0.mk (below_step (tg1 HB.out GE101.out) hb); have n2_ := Aside0.mk (hbox); have n3_ := Aside0.mk ((by rw [hg]; exact (below_size (tg1 HB.out GE101.out)) : w.heap.size ≤ gb109)); have n4_ := Aside0.mk ((by rw [hg]; exact (below_size (tg1 HB.out GE101.out)) : w.heap.size ≤ gb109)); have n5_ := Aside0.mk ((by rw [hg]; exact Nat.ne_of_lt (blk_lt (g := gb101) (o := .cells #[.string a0_0, .slice A0_1 l0_1.length c0_1, .slice A0_2 l0_2.length c0_2, .slice (some ad102) l0_3.length c0_3, .slice A0_4 l0_4.length c0_4, .slice A0_5 l0_5.length c0_5] 26 (0, 0)) (tb BK101.out)) : gb101 ≠ gb109)); have n6_ := Aside0.mk ((by rw [hg]; exact Nat.ne_of_gt (blk_lt (g := gb101) (o := .cells #[.string a0_0, .slice A0_1 l0_1.length c0_1, .slice A0_2 l0_2.length c0_2, .slice (some ad102) l0_3.length c0_3, .slice A0_4 l0_4.length c0_4, .slice A0_5 l0_5.length c0_5] 26 (0, 0)) (tb BK101.out)) : gb109 ≠ gb101)); clear BK101; clear HB; have BK101 := n0_; have HB := n1_; have BK109 := n2_; have GW109 := n3_; have GE109 := n4_; have NB101_109 := n5_; have NB109_101 := n6_; clear n0_ n1_ n2_ n3_ n4_ n5_ n6_; clear hb hbox hg; have hnb25 := NB109_101.out; have hnc25 := NB101_109.out; obtain ⟨hcz26_0, hcz26_1, hcz26_2, hcz26_3, hcz26_4, hfz26_0, hfz26_1, hfz26_2, hfz26_3, hfz26_4⟩ := cq5 BK109.out))
          go_ret2
          exact ⟨te, tg2 HB.out GE101.out GE109.out⟩
        ·rw [if_neg c11] at H
         exact absurd H (by simp)
       ·rw [if_neg c10] at H
        exact absurd H (by simp)
      ·rw [if_neg c9] at H
       have c9b0 : decide (x24_2 < (l0_3.length : Int)) = false := decide_eq_false c9
       clear c9
       simp only [Option.some.injEq, Prod.mk.injEq] at H
       obtain ⟨rfl, rfl⟩ := H
       go_wp2
       go_ret2
       exact ⟨te, tg1 HB.out GE101.out⟩

end Go.Proofs.YtiphindialkmnaaDoor.X
end
section
namespace Go.Proofs.YtiphindialkmnaaDoor.X
open Go.RowKit Go.Proofs.YtiphindialkmnaaDoorW.PrintWords Go.Proofs.YtiphindialkmnaaDoorW.PrintLast Go.Proofs.YtiphindialkmnaaDoorW.PrintMore
theorem lift_mono {β : Type} {F : Nat → Option β} (hm : ∀ k, LeO (F k) (F (k + 1))) {k : Nat} {r : β} (h : F k = some r) : ∀ {k'}, k ≤ k' → F k' = some r := by
  intro k' hk
  induction hk with
  | refl => exact h
  | step _ ih => exact hm _ _ ih
end Go.Proofs.YtiphindialkmnaaDoor.X
end
section
namespace Go.Proofs.YtiphindialkmnaaDoor.X
open Go.RowKit Go.Proofs.YtiphindialkmnaaDoorW.PrintWords Go.Proofs.YtiphindialkmnaaDoorW.PrintLast Go.Proofs.YtiphindialkmnaaDoorW.PrintMore
attribute [local go_sem] max2_int min2_int max_two min_two max_three min_three max_four min_four
set_option linter.unusedVariables false
set_option linter.unusedSimpArgs false

/-! ### budwoodref10_Size: function 13 -/
def budwoodref10_Size.l0 : Nat → Int → List Int → Int → Option (Int)
 | 0, _, _, _ => none
 | k + 1, x3, x4, x5 => if x5 < 4 then (if x3 ≤ 65536 then (if 0 ≤ x5 then (if x5 < (x4.length : Int) then (budwoodref10_Size.l0 k (wrap64 (x3 + (mn (rd x4 x5) 65536))) x4 (wrap64 (x5 + 1))) else (none)) else (none)) else (some x3)) else (some x3)
def budwoodref10_Size.f (k : Nat) (a0_0 : ByteArray) (l0_1 : List ByteArray) (l0_2 : List ByteArray) (l0_3 : List Int) (l0_4 : List Int) (l0_5 : List (S43)) : Option (Int) := budwoodref10_Size.l0 k (l0_1.length : Int) (([(l0_2.length : Int), (l0_3.length : Int), (l0_4.length : Int), (l0_5.length : Int)] : List Int)) 0
theorem budwoodref10_Size.mono_l : ∀ k, (∀ y0 y1 y2, LeO (budwoodref10_Size.l0 k y0 y1 y2) (budwoodref10_Size.l0 (k + 1) y0 y1 y2))
 | 0 => fun _ _ _ r h => by simp [budwoodref10_Size.l0] at h
 | k + 1 => by
  have ih0 := budwoodref10_Size.mono_l k
  ·intro y0 y1 y2
   unfold budwoodref10_Size.l0
   repeat' first
   | (with_reducible exact ih0 _ _ _)
   | (with_reducible exact LeO.refl _)
   | (with_reducible exact LeO.none _)
   | (with_reducible refine LeO.ite ?_ ?_)
   | (with_reducible refine LeO.bind ?_ (fun _ => ?_))
theorem budwoodref10_Size.mono : ∀ a0 a1 a2 a3 a4 a5 k, LeO (budwoodref10_Size.f k a0 a1 a2 a3 a4 a5) (budwoodref10_Size.f (k + 1) a0 a1 a2 a3 a4 a5) := by
 intro a0 a1 a2 a3 a4 a5 k
 have ih0 := budwoodref10_Size.mono_l k
 unfold budwoodref10_Size.f
 repeat' first
   | (with_reducible exact ih0 _ _ _)
   | (with_reducible exact LeO.refl _)
   | (with_reducible exact LeO.none _)
   | (with_reducible refine LeO.ite ?_ ?_)
   | (with_reducible refine LeO.bind ?_ (fun _ => ?_))
set_option maxHeartbeats 8000000 in
set_option maxRecDepth 100000 in
theorem budwoodref10_Size.calls (k : Nat) (a0_0 : ByteArray) (A0_1 : Option Addr) (c0_1 : Nat) (l0_1 : List ByteArray) (A0_2 : Option Addr) (c0_2 : Nat) (l0_2 : List ByteArray) (A0_3 : Option Addr) (c0_3 : Nat) (l0_3 : List Int) (A0_4 : Option Addr) (c0_4 : Nat) (l0_4 : List Int) (A0_5 : Option Addr) (c0_5 : Nat) (l0_5 : List (S43)) (r : Int) (w : World) (hr0_1 : Kd.C Kd.string w A0_1 l0_1.length l0_1) (hc0_1 : l0_1.length ≤ c0_1) (hr0_2 : Kd.C Kd.string w A0_2 l0_2.length l0_2) (hc0_2 : l0_2.length ≤ c0_2) (hr0_3 : Kd.C (Kd.int .u32) w A0_3 l0_3.length l0_3) (hc0_3 : l0_3.length ≤ c0_3) (hr0_4 : Kd.C (Kd.int .u32) w A0_4 l0_4.length l0_4) (hc0_4 : l0_4.length ≤ c0_4) (hr0_5 : Kd.C k43 w A0_5 l0_5.length l0_5) (hc0_5 : l0_5.length ≤ c0_5) (h : budwoodref10_Size.f k a0_0 l0_1 l0_2 l0_3 l0_4 l0_5 = some r) :
  Calls Tryd.prog 13 #[.agg #[.string a0_0, .slice A0_1 l0_1.length c0_1, .slice A0_2 l0_2.length c0_2, .slice A0_3 l0_3.length c0_3, .slice A0_4 l0_4.length c0_4, .slice A0_5 l0_5.length c0_5]] w fun e w' => e = .returned (.int .i64 r) ∧ Below w.heap.size w w' := by
 have hu26 := Tryd.underlying26
 have HR0_1 := Aside0.mk hr0_1
 have HC0_1 := Aside0.mk hc0_1
 clear hr0_1 hc0_1
 have HR0_2 := Aside0.mk hr0_2
 have HC0_2 := Aside0.mk hc0_2
 clear hr0_2 hc0_2
 have HR0_3 := Aside0.mk hr0_3
 have HC0_3 := Aside0.mk hc0_3
 clear hr0_3 hc0_3
 have HR0_4 := Aside0.mk hr0_4
 have HC0_4 := Aside0.mk hc0_4
 clear hr0_4 hc0_4
 have HR0_5 := Aside0.mk hr0_5
 have HC0_5 := Aside0.mk hc0_5
 clear hr0_5 hc0_5
 have HB := Aside0.mk (Below.refl w.heap.size w)
 have H : (budwoodref10_Size.l0 k (l0_1.length : Int) (([(l0_2.length : Int), (l0_3.length : Int), (l0_4.length : Int), (l0_5.length : Int)] : List Int)) 0) = some r := h
 clear h
 obtain ⟨y102, hy102⟩ : ∃ y_ : List Int, y_ = (([(l0_2.length : Int), (l0_3.length : Int), (l0_4.length : Int), (l0_5.length : Int)] : List Int)) := ⟨_, rfl⟩
 replace H : (budwoodref10_Size.l0 k (l0_1.length : Int) y102 0) = some r := by first | (rw [hy102]; with_reducible exact H) | (have H2_ := (Option.bind_some _ _).symm.trans H; rw [hy102]; with_reducible exact H2_) | (have H2_ := (Option.bind_some _ _).symm.trans H; with_reducible exact H2_) | with_reducible exact H | (rw [hy102]; exact H) | exact H
 have Ny102 := Aside0.mk hy102
 clear hy102
 have H' := Aside0.mk H
 clear H
 go_enter Tryd.func13, Tryd.ntmps13
 go_wp2_with (first | ((with_reducible refine gate_dst (N := 1) rfl ?_); refine box_event ?hg (N := 1) ?hd (cs := #[.string a0_0, .slice A0_1 l0_1.length c0_1, .slice A0_2 l0_2.length c0_2, .slice A0_3 l0_3.length c0_3, .slice A0_4 l0_4.length c0_4, .slice A0_5 l0_5.length c0_5]) (t := 26) ?hr ?_; (case hd => rfl); (case hg => rfl); (case hr => first | (go_simp; done) | (go_simp; rfl)); intro gb101 hg w2 hbox hb; have n0_ := Aside0.mk (below_step (tg HB.out) hb); have n1_ := Aside0.mk (hbox); have n2_ := Aside0.mk ((by rw [hg]; exact (below_size (tg HB.out)) : w.heap.size ≤ gb101)); have n3_ := Aside0.mk ((by rw [hg]; exact (below_size (tg HB.out)) : w.heap.size ≤ gb101)); clear HB; have HB := n0_; have BK101 := n1_; have GW101 := n2_; have GE101 := n3_; clear n0_ n1_ n2_ n3_; clear hb hbox hg; obtain ⟨hcz3_0, hcz3_1, hcz3_2, hcz3_3, hcz3_4, hcz3_5, hfz3_0, hfz3_1, hfz3_2, hfz3_3, hfz3_4, hfz3_5⟩ := cq6 BK101.out) | ((with_reducible refine gate_dst (N := 21) rfl ?_); refine Kd.R_lit (Kd.int .i64) _ 3 ?hg (N := 21) ?hd (xs := ([(l0_2.length : Int), (l0_3.length : Int), (l0_4.length : Int), (l0_5.length : Int)] : List Int)) (inner := [.int .i64 (l0_2.length : Int), .int .i64 (l0_3.length : Int), .int .i64 (l0_4.length : Int), .int .i64 (l0_5.length : Int)]) (ok := fun _ => True) (okp := fun _ => True) ?hr ?hp (fun _ hk => hk) trivial (Below.refl _ _) (Nat.le_refl _) (by simp) ?_; (case hd => rfl); (case hg => rfl); (case hr => first | (go_simp; done) | (go_simp; rfl)); (case hp => exact (Reps.one (show Kd.M (Kd.int .i64) _ _ _ (l0_2.length : Int) [.int .i64 (l0_2.length : Int)] from rfl) (Reps.one (show Kd.M (Kd.int .i64) _ _ _ (l0_3.length : Int) [.int .i64 (l0_3.length : Int)] from rfl) (Reps.one (show Kd.M (Kd.int .i64) _ _ _ (l0_4.length : Int) [.int .i64 (l0_4.length : Int)] from rfl) (Reps.one (show Kd.M (Kd.int .i64) _ _ _ (l0_5.length : Int) [.int .i64 (l0_5.length : Int)] from rfl) (Reps.none _ _)))))); intro v103 w4 ho5 hb hg_ hnew_; clear hg_ hnew_; (first | rw [← Ny102.out] at ho5 | (simp only [Int.reduceToNat] at ho5; rw [← Ny102.out] at ho5)); have HO104 := Aside0.mk (Kd.R_lower ho5 (below_size (tg1 HB.out GE101.out))); replace BK101 := ba BK101.out hb; replace HB := Aside0.mk (below_step (tg1 HB.out GE101.out) hb); clear hb ho5))
 go_loopg [3, 5] k (fun kq v3 v5 w' => ∃ (x3_1 : Int) (x5_1 : Int), v3 = .int .i64 x3_1 ∧ v5 = .int .i64 x5_1 ∧ Aside0 (budwoodref10_Size.l0 kq x3_1 y102 x5_1 = some r) ∧ Aside0 (kq ≤ k) ∧ Aside0 (Kd.R (Kd.int .i64) 3 w' w.heap.size (fun _ => True) v103 y102) ∧ Aside0 (w'.heap[gb101]? = some (.cells #[.string a0_0, (.slice A0_1 l0_1.length c0_1), (.slice A0_2 l0_2.length c0_2), (.slice A0_3 l0_3.length c0_3), (.slice A0_4 l0_4.length c0_4), (.slice A0_5 l0_5.length c0_5)] 26 (0, 0))) ∧ Aside0 (Below w.heap.size w w'))
 case atStart => exact ⟨((l0_1.length : Int)), (0), ts, ts, H', ⟨Nat.le_refl _⟩, ⟨tk HO104.out⟩, ⟨tb BK101.out⟩, ⟨tg1 HB.out GE101.out⟩⟩
 case round =>
  clear H'
  try clear c1
  try clear p2
  try clear hcz3_0 hcz3_1 hcz3_2 hcz3_3 hcz3_4 hcz3_5 hfz3_0 hfz3_1 hfz3_2 hfz3_3 hfz3_4 hfz3_5
  obtain ⟨x3_1, x5_1, rfl, rfl, HA, HK1, HO_4, BK101, HB⟩ := hrel
  cases gk with
  | zero => exact absurd HA.out (by simp [budwoodref10_Size.l0])
  | succ k1 =>
   have H := HA.out
   clear HA
   simp only [budwoodref10_Size.l0] at H
   by_cases c6 : x5_1 < 4
   ·rw [if_pos c6] at H
    have c6b0 : decide (x5_1 < 4) = true := decide_eq_true c6
    clear c6
    by_cases c7 : x3_1 ≤ 65536
    ·rw [if_pos c7] at H
     have c7b0 : decide (x3_1 ≤ 65536) = true := decide_eq_true c7
     clear c7
     by_cases c8 : 0 ≤ x5_1
     ·rw [if_pos c8] at H
      have c8b0 : decide (0 ≤ x5_1) = true := decide_eq_true c8
      clear c8
      by_cases c9 : x5_1 < (y102.length : Int)
      ·rw [if_pos c9] at H
       have c9b0 : decide (x5_1 < (y102.length : Int)) = true := decide_eq_true c9
       clear c9
       obtain ⟨ji10, hji10⟩ : ∃ j_ : Int, (mn (rd y102 x5_1) 65536) = j_ := ⟨_, rfl⟩
       replace H : (budwoodref10_Size.l0 k1 (wrap64 (x3_1 + (ji10))) y102 (wrap64 (x5_1 + 1))) = some r := by first | (rw [hji10] at H; exact H) | (simp only [hji10] at H ⊢; exact H)
       have hji10_ : (if 65536 < (rd y102 x5_1) then 65536 else (rd y102 x5_1)) = ji10 := hji10
       have H' := Aside0.mk H
       clear H
       obtain ⟨Ao11, co11, eo11⟩ := Kd.R_slice HO_4.out
       subst eo11
       have p105 : 0 ≤ (x5_1 : Int) := td
       have q105 : x5_1 < (y102.length : Int) := td
       obtain ⟨ad105, e105, hx105_0⟩ := Kd.at_int (Kd.R_reads' HO_4.out).2.2 x5_1 p105 q105
       cases e105
       replace p105 := eq_true p105
       replace q105 := eq_true q105
       go_wp2
       go_roundg k1
       case measure => have := HK1.out; omega
       case rel => exact ⟨(wrap64 (x3_1 + (ji10))), (wrap64 (x5_1 + 1)), (by first | rfl | (simp; done) | (simp only [← hji10] <;> (first | rfl | simp)) | (simp [*]; done)), ts, H', ⟨by have := HK1.out; omega⟩, ⟨tk HO_4.out⟩, ⟨tb BK101.out⟩, ⟨tg1 HB.out GE101.out⟩⟩
      ·rw [if_neg c9] at H
       exact absurd H (by simp)
     ·rw [if_neg c8] at H
      exact absurd H (by simp)
    ·rw [if_neg c7] at H
     have c7b0 : decide (x3_1 ≤ 65536) = false := decide_eq_false c7
     clear c7
     obtain rfl := Option.some.inj H
     go_wp2
     go_ret
     exact ⟨te, tg1 HB.out GE101.out⟩
   ·rw [if_neg c6] at H
    have c6b0 : decide (x5_1 < 4) = false := decide_eq_false c6
    clear c6
    obtain rfl := Option.some.inj H
    go_wp2
    go_ret
    exact ⟨te, tg1 HB.out GE101.out⟩

end Go.Proofs.YtiphindialkmnaaDoor.X
end
section
namespace Go.Proofs.YtiphindialkmnaaDoor.X
open Go.RowKit Go.Proofs.YtiphindialkmnaaDoorW.PrintWords Go.Proofs.YtiphindialkmnaaDoorW.PrintLast Go.Proofs.YtiphindialkmnaaDoorW.PrintMore
set_option linter.unusedSimpArgs false
theorem w64 (n : Int) (h : -9223372036854775808 ≤ n ∧ n ≤ 9223372036854775807) : wrap64 n = n := by unfold wrap64; omega
theorem rdOf_nat {α : Type} (d : α) (l : List α) (i : Nat) : rdOf d l (i : Int) = l.getD i d := by simp [rdOf]
/-- texts alike from i on -/
def alike (l m : List ByteArray) (i : Nat) : Prop := ∀ j, i ≤ j → j < l.length → l.getD j ByteArray.empty = m.getD j ByteArray.empty
theorem bytes_eq_iff (a b : ByteArray) : a.toList = b.toList ↔ a = b := by
  rw [ByteArray.toList_eq, ByteArray.toList_eq]
  exact ⟨fun h => ByteArray.ext (Array.toList_inj.mp h), fun h => by rw [h]⟩
theorem alike_step {l m : List ByteArray} {i : Nat} (hi : i < l.length) : alike l m i ↔ (l.getD i ByteArray.empty = m.getD i ByteArray.empty ∧ alike l m (i + 1)) := by
  constructor
  · exact fun h => ⟨h i (Nat.le_refl _) hi, fun j hj hl => h j (by omega) hl⟩
  · rintro ⟨h0, h1⟩ j hj hl
    by_cases e : j = i
    · subst e; exact h0
    · exact h1 j (by omega) hl
theorem mn_le (a b : Int) : mn a b ≤ b ∧ mn a b ≤ a ∧ (mn a b = a ∨ mn a b = b) := by
  unfold mn
  split <;> omega
def tot (L : List Int) (i : Nat) : Nat → Int
  | 0 => 0
  | d + 1 => rd L (i : Int) + tot L (i + 1) d
theorem size_l (L : List Int) (h4 : L.length = 4) (hp : ∀ j : Nat, 0 ≤ rd L (j : Int)) : ∀ (d i : Nat) (x : Int) (k : Nat), i + d = 4 → d < k → 0 ≤ x →  x ≤ 9223372036854775807 → ∃ s, budwoodref10_Size.l0 k x L (i : Int) = some s ∧ x ≤ s ∧ (s ≤ 2000 → x + tot L i d ≤ s) := by
  intro d
  induction d with
  | zero =>
    intro i x k h1 h2 h3 h5
    obtain ⟨k, rfl⟩ : ∃ k', k = k' + 1 := ⟨k - 1, by omega⟩
    refine ⟨x, ?_, by omega, by simp [tot]⟩
    simp only [budwoodref10_Size.l0]
    rw [if_neg (by omega)]
  | succ d ih =>
    intro i x k h1 h2 h3 h5
    obtain ⟨k, rfl⟩ : ∃ k', k = k' + 1 := ⟨k - 1, by omega⟩
    by_cases hx : x ≤ 65536
    · have m0 := mn_le (rd L i) 65536
      have p0 := hp i
      simp only [budwoodref10_Size.l0]
      rw [if_pos (by omega), if_pos hx, if_pos (by omega), if_pos (by omega), w64 _ (by omega), w64 _ (by omega)]
      obtain ⟨s, hs1, hs2, hs3⟩ := ih (i + 1) (x + mn (rd L i) 65536) k (by omega) (by omega) (by omega) (by omega)
      refine ⟨s, by simpa using hs1, by omega, fun h => ?_⟩
      have := hs3 h
      simp only [tot]
      omega
    · refine ⟨x, ?_, by omega, fun h => by omega⟩
      simp only [budwoodref10_Size.l0]
      rw [if_pos (by omega), if_neg hx]
theorem size_law (a0 : ByteArray) (l1 l2 : List ByteArray) (l3 l4 : List Int) (l5 : List S43) (k : Nat) (hk : 6 ≤ k) (hb : l1.length ≤ 9223372036854775807) :
    ∃ s, budwoodref10_Size.f k a0 l1 l2 l3 l4 l5 = some s ∧ (s ≤ 2000 → l1.length + l2.length + l3.length + l4.length + l5.length ≤ 2000) := by
  unfold budwoodref10_Size.f
  have hp : ∀ j : Nat, 0 ≤ rd ([(l2.length : Int), (l3.length : Int), (l4.length : Int), (l5.length : Int)] : List Int) (j : Int) := by
    intro j
    unfold rd
    simp only [Int.toNat_natCast]
    match j with
    | 0 => simp
    | 1 => simp
    | 2 => simp
    | 3 => simp
    | j + 4 => simp
  obtain ⟨s, h1, h2, h3⟩ := size_l _ rfl hp 4 0 (l1.length : Int) k rfl (by omega) (by omega) (by omega)
  refine ⟨s, h1, fun h => ?_⟩
  have := h3 h
  simp [tot, rd] at this
  omega
end Go.Proofs.YtiphindialkmnaaDoor.X
end
section
namespace Go.Proofs.YtiphindialkmnaaDoor.X
open Go.RowKit Go.Proofs.YtiphindialkmnaaDoorW.PrintWords Go.Proofs.YtiphindialkmnaaDoorW.PrintLast Go.Proofs.YtiphindialkmnaaDoorW.PrintMore
set_option linter.unusedSimpArgs false
set_option linter.unusedVariables false
theorem wraps_u32 (n : Int) (h₀ : 0 ≤ n) (h₁ : n < 2 ^ 32) : IntKind.u32.wrap n = n := by rw [IntKind.wrap_u32]; omega
theorem and_nat {a b : Nat} (ha : a < 2 ^ 32) (hb : b < 2 ^ 32) : Go.bits .and .u32 (a : Int) (b : Int) = ((a &&& b : Nat) : Int) := (bits_nat .u32 32 (by decide) wraps_u32 a b ha hb).1
theorem or_nat {a b : Nat} (ha : a < 2 ^ 32) (hb : b < 2 ^ 32) : Go.bits .or .u32 (a : Int) (b : Int) = ((a ||| b : Nat) : Int) := (bits_nat .u32 32 (by decide) wraps_u32 a b ha hb).2
theorem andNot_nat {a b : Nat} (ha : a < 2 ^ 32) (hb : b < 2 ^ 32) : Go.bits .andNot .u32 (a : Int) (b : Int) = ((a &&& (2 ^ 32 - (b + 1)) : Nat) : Int) := by
  have e : (BitVec.ofNat 32 a &&& ~~~ BitVec.ofNat 32 b).toNat = a &&& (2 ^ 32 - (b + 1)) := by
    rw [BitVec.toNat_and, BitVec.toNat_not, BitVec.toNat_ofNat, BitVec.toNat_ofNat, Nat.mod_eq_of_lt ha, Nat.mod_eq_of_lt hb]
    congr 1
    omega
  have h2 : a &&& (2 ^ 32 - (b + 1)) < 2 ^ 32 := Nat.and_lt_two_pow _ (by omega)
  show IntKind.u32.wrap _ = _
  rw [show (IntKind.u32.bits : Nat) = 32 from rfl, BitVec.ofInt_natCast, BitVec.ofInt_natCast, e]
  exact wraps_u32 _ (Int.natCast_nonneg _) (by exact_mod_cast h2)
theorem shl_nat (a n : Nat) (hn : n ≤ 32) : shl .u32 (a : Int) (n : Int) = (((a <<< n) % 2 ^ 32 : Nat) : Int) := by
  unfold shl
  rw [IntKind.wrap_u32, show IntKind.u32.bits = 32 from rfl, Int.toNat_natCast, Nat.min_eq_left hn, Nat.shiftLeft_eq, Int.natCast_emod, Int.natCast_mul, Int.natCast_pow, Int.natCast_pow]
  rfl
theorem shr_nat (a n : Nat) (hn : n ≤ 32) : shr .u32 (a : Int) (n : Int) = ((a >>> n : Nat) : Int) := by
  unfold shr
  rw [show IntKind.u32.bits = 32 from rfl, Int.toNat_natCast, Nat.min_eq_left hn, Nat.shiftRight_eq_div_pow, Int.natCast_ediv, Int.natCast_pow]
  rfl
theorem mask_nat (n : Nat) (hn : n ≤ 32) : word_mask.f (n : Int) = some ((2 ^ n - 1 : Nat) : Int) := by
  unfold word_mask.f
  rw [if_pos (Int.natCast_nonneg _)]
  have h := shl_nat 1 n hn
  rw [show ((1 : Nat) : Int) = 1 from rfl] at h
  rw [h]
  congr 1
  rw [Nat.shiftLeft_eq, Nat.one_mul]
  rcases Nat.lt_or_eq_of_le hn with h1 | h1
  · have hp : 2 ^ n < 2 ^ 32 := Nat.pow_lt_pow_right (by decide) h1
    have hq : 0 < 2 ^ n := Nat.two_pow_pos n
    rw [Nat.mod_eq_of_lt hp]
    generalize 2 ^ n = m at hp hq ⊢
    omega
  · subst h1
    decide
theorem may_nat (i n : Nat) (h : i + n ≤ 32) : word_may.f (i : Int) (n : Int) = some true := by
  unfold word_may.f
  rw [if_pos (by omega), if_pos (by omega), if_pos (by omega), decide_eq_true]
  rw [w64 _ (by omega)]
  omega
/-- the n bits from i on -/
def cut (a i n : Nat) : Nat := (a >>> i) % 2 ^ n
theorem cut_bit (a i n j : Nat) : (cut a i n).testBit j = (decide (j < n) && a.testBit (i + j)) := by
  unfold cut
  rw [Nat.testBit_mod_two_pow, Nat.testBit_shiftRight]
theorem cut_lt (a i n : Nat) : cut a i n < 2 ^ n := Nat.mod_lt _ (Nat.two_pow_pos n)
theorem shr_lt {a : Nat} (h : a < 2 ^ 32) (i : Nat) : a >>> i < 2 ^ 32 := by
  rw [Nat.shiftRight_eq_div_pow]
  exact Nat.lt_of_le_of_lt (Nat.div_le_self _ _) h
theorem Bits_nat (a i n : Nat) (ha : a < 2 ^ 32) (h : i + n ≤ 32) : word_Bits.f (a : Int) (i : Int) (n : Int) = some ((cut a i n : Nat) : Int) := by
  unfold word_Bits.f
  rw [may_nat i n h, Option.bind_some, if_pos rfl, if_pos (Int.natCast_nonneg _), mask_nat n (by omega), Option.bind_some, shr_nat a i (by omega),
    and_nat (shr_lt ha i) (Nat.lt_of_lt_of_le (Nat.sub_lt (Nat.two_pow_pos n) (by decide)) (Nat.pow_le_pow_right (by decide) (by omega))), Nat.and_two_pow_sub_one_eq_mod]
  rfl
/-- a word with a part of it put anew -/
def put (w i n v : Nat) : Nat := (w &&& (2 ^ 32 - (((2 ^ n - 1) <<< i) % 2 ^ 32 + 1))) ||| (((v &&& (2 ^ n - 1)) <<< i) % 2 ^ 32)
theorem put_bit (w i n v m : Nat) (hw : w < 2 ^ 32) : (put w i n v).testBit m = (decide (m < 32) && (if i ≤ m ∧ m < i + n then v.testBit (m - i) else w.testBit m)) := by
  unfold put
  rw [Nat.testBit_or, Nat.testBit_and, Nat.testBit_two_pow_sub_succ (Nat.mod_lt _ (by decide)), Nat.testBit_mod_two_pow, Nat.testBit_mod_two_pow, Nat.testBit_shiftLeft, Nat.testBit_shiftLeft, Nat.testBit_and, Nat.testBit_two_pow_sub_one]
  by_cases h1 : m < 32
  · by_cases h2 : i ≤ m
    · by_cases h3 : m < i + n
      · have h4 : m - i < n := by omega
        simp [h1, h2, h3, h4]
      · have h4 : ¬ m - i < n := by omega
        simp [h1, h2, h3, h4]
    · simp [h1, h2]
  · simp [h1]
theorem put_lt (w i n v : Nat) (hw : w < 2 ^ 32) : put w i n v < 2 ^ 32 := by
  unfold put
  exact Nat.or_lt_two_pow (Nat.and_lt_two_pow _ (by have := Nat.mod_lt ((2 ^ n - 1) <<< i) (show 0 < 2 ^ 32 by decide); omega)) (Nat.mod_lt _ (by decide))
theorem With_nat (w i n v : Nat) (hw : w < 2 ^ 32) (hv : v < 2 ^ 32) (h : i + n ≤ 32) : word_With.f (w : Int) (i : Int) (n : Int) (v : Int) = some ((put w i n v : Nat) : Int) := by
  have hm : 2 ^ n - 1 < 2 ^ 32 := Nat.lt_of_lt_of_le (Nat.sub_lt (Nat.two_pow_pos n) (by decide)) (Nat.pow_le_pow_right (by decide) (by omega))
  unfold word_With.f
  rw [may_nat i n h, Option.bind_some, if_pos rfl, mask_nat n (by omega), Option.bind_some, if_pos (Int.natCast_nonneg _), shl_nat _ i (by omega), andNot_nat hw (Nat.mod_lt _ (by decide)), and_nat hv hm, shl_nat _ i (by omega),
    or_nat (Nat.and_lt_two_pow _ (by have := Nat.mod_lt ((2 ^ n - 1) <<< i) (show 0 < 2 ^ 32 by decide); omega)) (Nat.mod_lt _ (by decide))]
  rfl
end Go.Proofs.YtiphindialkmnaaDoor.X
end
section
namespace Go.Proofs.YtiphindialkmnaaDoor.X
open Go.RowKit Go.Proofs.YtiphindialkmnaaDoorW.PrintWords Go.Proofs.YtiphindialkmnaaDoorW.PrintLast Go.Proofs.YtiphindialkmnaaDoorW.PrintMore
attribute [local go_sem] max2_int min2_int max_two min_two max_three min_three max_four min_four
set_option linter.unusedVariables false
set_option linter.unusedSimpArgs false

/-! ### link_data: function 100 -/
def link_data.f (a0 : Int) : Option (Bool) := if a0 = 4 then (some true) else (if a0 = 5 then (some true) else (some (a0 == 6)))
set_option maxHeartbeats 8000000 in
set_option maxRecDepth 100000 in
theorem link_data.calls (a0 : Int) (r : Bool) (w : World) (h : link_data.f a0 = some r) :
  Calls Tryd.prog 100 #[.int .u8 a0] w fun e w' => e = .returned (.bool r) ∧ Drawn0 w w' := by
 have H : (if a0 = 4 then (some true) else (if a0 = 5 then (some true) else (some (a0 == 6)))) = some r := h
 clear h
 by_cases c2 : a0 = 4
 ·rw [if_pos c2] at H
  have c2b0 : (a0 == 4) = true := beq_iff_eq.mpr c2
  have c2b1 : (a0 != 4) = false := bne_eq_false_iff_eq.mpr c2
  clear c2
  obtain rfl := Option.some.inj H
  go_enter Tryd.func100, Tryd.ntmps100
  go_wp2
  go_ret
  exact ⟨ts, tw⟩
 ·rw [if_neg c2] at H
  have c2b0 : (a0 == 4) = false := beq_eq_false_iff_ne.mpr c2
  have c2b1 : (a0 != 4) = true := bne_iff_ne.mpr c2
  by_cases c3 : a0 = 5
  ·rw [if_pos c3] at H
   have c3b0 : (a0 == 5) = true := beq_iff_eq.mpr c3
   have c3b1 : (a0 != 5) = false := bne_eq_false_iff_eq.mpr c3
   clear c3
   obtain rfl := Option.some.inj H
   go_enter Tryd.func100, Tryd.ntmps100
   go_wp2
   go_ret
   exact ⟨ts, tw⟩
  ·rw [if_neg c3] at H
   have c3b0 : (a0 == 5) = false := beq_eq_false_iff_ne.mpr c3
   have c3b1 : (a0 != 5) = true := bne_iff_ne.mpr c3
   obtain rfl := Option.some.inj H
   go_enter Tryd.func100, Tryd.ntmps100
   go_wp2
   go_ret
   exact ⟨ts, tw⟩

end Go.Proofs.YtiphindialkmnaaDoor.X
end
section
namespace Go.Proofs.YtiphindialkmnaaDoor.X
open Go.RowKit Go.Proofs.YtiphindialkmnaaDoorW.PrintWords Go.Proofs.YtiphindialkmnaaDoorW.PrintLast Go.Proofs.YtiphindialkmnaaDoorW.PrintMore
attribute [local go_sem] max2_int min2_int max_two min_two max_three min_three max_four min_four
set_option linter.unusedVariables false
set_option linter.unusedSimpArgs false

/-! ### layout_up: function 70 -/
def layout_up.f (a0 : Int) : Option (Int) := some (wrap64 (Int.tdiv (wrap64 ((wrap64 (a0 + 16)) - 1)) 16))
set_option maxHeartbeats 8000000 in
set_option maxRecDepth 100000 in
theorem layout_up.calls (a0 : Int) (r : Int) (w : World) (h : layout_up.f a0 = some r) :
  Calls Tryd.prog 70 #[.int .i64 a0] w fun e w' => e = .returned (.int .i64 r) ∧ Drawn0 w w' := by
 have H : (some (wrap64 (Int.tdiv (wrap64 ((wrap64 (a0 + 16)) - 1)) 16))) = some r := h
 clear h
 obtain rfl := Option.some.inj H
 go_enter Tryd.func70, Tryd.ntmps70
 go_wp2
 go_ret
 exact ⟨ts, tw⟩

end Go.Proofs.YtiphindialkmnaaDoor.X
end
section
namespace Go.Proofs.YtiphindialkmnaaDoor.X
open Go.RowKit Go.Proofs.YtiphindialkmnaaDoorW.PrintWords Go.Proofs.YtiphindialkmnaaDoorW.PrintLast Go.Proofs.YtiphindialkmnaaDoorW.PrintMore
attribute [local go_sem] max2_int min2_int max_two min_two max_three min_three max_four min_four
set_option linter.unusedVariables false
set_option linter.unusedSimpArgs false

/-! ### layout_Spot: function 35 -/
def layout_Spot.f (a0_0 : ByteArray) (l0_1 : List ByteArray) (l0_2 : List ByteArray) (l0_3 : List Int) (l0_4 : List Int) (l0_5 : List (S43)) (a1 : Int) : Option (Bool × Int × Bool) := if a1 < 0 then (some (false, 0, false)) else (if a1 < (l0_3.length : Int) then (some (true, a1, true)) else ((layout_up.f (l0_3.length : Int)).bind fun t102 => (if (wrap64 (a1 - (wrap64 (t102 * 16)))) < 0 then (some (false, 0, false)) else (if (wrap64 (a1 - (wrap64 (t102 * 16)))) ≥ (l0_4.length : Int) then (some (false, 0, false)) else (some (false, wrap64 (a1 - (wrap64 (t102 * 16))), true))))))
set_option maxHeartbeats 8000000 in
set_option maxRecDepth 100000 in
theorem layout_Spot.calls (a0_0 : ByteArray) (A0_1 : Option Addr) (c0_1 : Nat) (l0_1 : List ByteArray) (A0_2 : Option Addr) (c0_2 : Nat) (l0_2 : List ByteArray) (A0_3 : Option Addr) (c0_3 : Nat) (l0_3 : List Int) (A0_4 : Option Addr) (c0_4 : Nat) (l0_4 : List Int) (A0_5 : Option Addr) (c0_5 : Nat) (l0_5 : List (S43)) (a1 : Int) (r1 : Bool) (r2 : Int) (r3 : Bool) (w : World) (hr0_1 : Kd.C Kd.string w A0_1 l0_1.length l0_1) (hc0_1 : l0_1.length ≤ c0_1) (hr0_2 : Kd.C Kd.string w A0_2 l0_2.length l0_2) (hc0_2 : l0_2.length ≤ c0_2) (hr0_3 : Kd.C (Kd.int .u32) w A0_3 l0_3.length l0_3) (hc0_3 : l0_3.length ≤ c0_3) (hr0_4 : Kd.C (Kd.int .u32) w A0_4 l0_4.length l0_4) (hc0_4 : l0_4.length ≤ c0_4) (hr0_5 : Kd.C k43 w A0_5 l0_5.length l0_5) (hc0_5 : l0_5.length ≤ c0_5) (h : layout_Spot.f a0_0 l0_1 l0_2 l0_3 l0_4 l0_5 a1 = some (r1, r2, r3)) :
  Calls Tryd.prog 35 #[.agg #[.string a0_0, .slice A0_1 l0_1.length c0_1, .slice A0_2 l0_2.length c0_2, .slice A0_3 l0_3.length c0_3, .slice A0_4 l0_4.length c0_4, .slice A0_5 l0_5.length c0_5], .int .i64 a1] w fun e w' => e = .returned (.tuple #[.bool r1, .int .i64 r2, .bool r3]) ∧ Below w.heap.size w w' := by
 have hu26 := Tryd.underlying26
 have HR0_1 := Aside0.mk hr0_1
 have HC0_1 := Aside0.mk hc0_1
 clear hr0_1 hc0_1
 have HR0_2 := Aside0.mk hr0_2
 have HC0_2 := Aside0.mk hc0_2
 clear hr0_2 hc0_2
 have HR0_3 := Aside0.mk hr0_3
 have HC0_3 := Aside0.mk hc0_3
 clear hr0_3 hc0_3
 have HR0_4 := Aside0.mk hr0_4
 have HC0_4 := Aside0.mk hc0_4
 clear hr0_4 hc0_4
 have HR0_5 := Aside0.mk hr0_5
 have HC0_5 := Aside0.mk hc0_5
 clear hr0_5 hc0_5
 have HB := Aside0.mk (Below.refl w.heap.size w)
 have H : (if a1 < 0 then (some (false, 0, false)) else (if a1 < (l0_3.length : Int) then (some (true, a1, true)) else ((layout_up.f (l0_3.length : Int)).bind fun t102 => (if (wrap64 (a1 - (wrap64 (t102 * 16)))) < 0 then (some (false, 0, false)) else (if (wrap64 (a1 - (wrap64 (t102 * 16)))) ≥ (l0_4.length : Int) then (some (false, 0, false)) else (some (false, wrap64 (a1 - (wrap64 (t102 * 16))), true))))))) = some (r1, r2, r3) := h
 clear h
 by_cases c3 : a1 < 0
 ·rw [if_pos c3] at H
  have c3b0 : decide (a1 < 0) = true := decide_eq_true c3
  clear c3
  simp only [Option.some.injEq, Prod.mk.injEq] at H
  obtain ⟨rfl, rfl, rfl⟩ := H
  go_enter Tryd.func35, Tryd.ntmps35
  go_wp2_with (first | ((with_reducible refine gate_dst (N := 2) rfl ?_); (try (refine gate_guard (by rfl) ?_; dsimp only)); refine box_event ?hg (N := 2) ?hd (cs := #[.string a0_0, .slice A0_1 l0_1.length c0_1, .slice A0_2 l0_2.length c0_2, .slice A0_3 l0_3.length c0_3, .slice A0_4 l0_4.length c0_4, .slice A0_5 l0_5.length c0_5]) (t := 26) ?hr ?_; (case hd => rfl); (case hg => rfl); (case hr => first | (go_simp; done) | (go_simp; rfl)); intro gb101 hg w4 hbox hb; have n0_ := Aside0.mk (below_step (tg HB.out) hb); have n1_ := Aside0.mk (hbox); have n2_ := Aside0.mk ((by rw [hg]; exact (below_size (tg HB.out)) : w.heap.size ≤ gb101)); have n3_ := Aside0.mk ((by rw [hg]; exact (below_size (tg HB.out)) : w.heap.size ≤ gb101)); clear HB; have HB := n0_; have BK101 := n1_; have GW101 := n2_; have GE101 := n3_; clear n0_ n1_ n2_ n3_; clear hb hbox hg))
  go_ret3
  exact ⟨te, tg1 HB.out GE101.out⟩
 ·rw [if_neg c3] at H
  have c3b0 : decide (a1 < 0) = false := decide_eq_false c3
  clear c3
  by_cases c5 : a1 < (l0_3.length : Int)
  ·rw [if_pos c5] at H
   have c5b0 : decide (a1 < (l0_3.length : Int)) = true := decide_eq_true c5
   clear c5
   simp only [Option.some.injEq, Prod.mk.injEq] at H
   obtain ⟨rfl, rfl, rfl⟩ := H
   go_enter Tryd.func35, Tryd.ntmps35
   go_wp2_with (first | ((with_reducible refine gate_dst (N := 2) rfl ?_); (try (refine gate_guard (by rfl) ?_; dsimp only)); refine box_event ?hg (N := 2) ?hd (cs := #[.string a0_0, .slice A0_1 l0_1.length c0_1, .slice A0_2 l0_2.length c0_2, .slice A0_3 l0_3.length c0_3, .slice A0_4 l0_4.length c0_4, .slice A0_5 l0_5.length c0_5]) (t := 26) ?hr ?_; (case hd => rfl); (case hg => rfl); (case hr => first | (go_simp; done) | (go_simp; rfl)); intro gb101 hg w6 hbox hb; have n0_ := Aside0.mk (below_step (tg HB.out) hb); have n1_ := Aside0.mk (hbox); have n2_ := Aside0.mk ((by rw [hg]; exact (below_size (tg HB.out)) : w.heap.size ≤ gb101)); have n3_ := Aside0.mk ((by rw [hg]; exact (below_size (tg HB.out)) : w.heap.size ≤ gb101)); clear HB; have HB := n0_; have BK101 := n1_; have GW101 := n2_; have GE101 := n3_; clear n0_ n1_ n2_ n3_; clear hb hbox hg; obtain ⟨hcz7_0, hcz7_1, hcz7_2, hcz7_3, hcz7_4, hcz7_5, hfz7_0, hfz7_1, hfz7_2, hfz7_3, hfz7_4, hfz7_5⟩ := cq6 BK101.out))
   go_ret3
   exact ⟨te, tg1 HB.out GE101.out⟩
  ·rw [if_neg c5] at H
   have c5b0 : decide (a1 < (l0_3.length : Int)) = false := decide_eq_false c5
   clear c5
   replace H := Option.bind_eq_some_iff.mp H
   obtain ⟨t102, A80, H⟩ := H
   replace H : (if (wrap64 (a1 - (wrap64 (t102 * 16)))) < 0 then (some (false, 0, false)) else (if (wrap64 (a1 - (wrap64 (t102 * 16)))) ≥ (l0_4.length : Int) then (some (false, 0, false)) else (some (false, wrap64 (a1 - (wrap64 (t102 * 16))), true)))) = some (r1, r2, r3) := H
   have A8 := Aside0.mk A80
   clear A80
   by_cases c9 : (wrap64 (a1 - (wrap64 (t102 * 16)))) < 0
   ·rw [if_pos c9] at H
    have c9b0 : decide ((wrap64 (a1 - (wrap64 (t102 * 16)))) < 0) = true := decide_eq_true c9
    clear c9
    simp only [Option.some.injEq, Prod.mk.injEq] at H
    obtain ⟨rfl, rfl, rfl⟩ := H
    go_enter Tryd.func35, Tryd.ntmps35
    go_wp2_with (first | ((with_reducible refine gate_dst (N := 2) rfl ?_); (try (refine gate_guard (by rfl) ?_; dsimp only)); refine box_event ?hg (N := 2) ?hd (cs := #[.string a0_0, .slice A0_1 l0_1.length c0_1, .slice A0_2 l0_2.length c0_2, .slice A0_3 l0_3.length c0_3, .slice A0_4 l0_4.length c0_4, .slice A0_5 l0_5.length c0_5]) (t := 26) ?hr ?_; (case hd => rfl); (case hg => rfl); (case hr => first | (go_simp; done) | (go_simp; rfl)); intro gb101 hg w10 hbox hb; have n0_ := Aside0.mk (below_step (tg HB.out) hb); have n1_ := Aside0.mk (hbox); have n2_ := Aside0.mk ((by rw [hg]; exact (below_size (tg HB.out)) : w.heap.size ≤ gb101)); have n3_ := Aside0.mk ((by rw [hg]; exact (below_size (tg HB.out)) : w.heap.size ≤ gb101)); clear HB; have HB := n0_; have BK101 := n1_; have GW101 := n2_; have GE101 := n3_; clear n0_ n1_ n2_ n3_; clear hb hbox hg; obtain ⟨hcz11_0, hcz11_1, hcz11_2, hcz11_3, hcz11_4, hcz11_5, hfz11_0, hfz11_1, hfz11_2, hfz11_3, hfz11_4, hfz11_5⟩ := cq6 BK101.out) | ((with_reducible refine gate_callee (f := 70) rfl ?_); refine goesL_ (some 19) rfl rfl Tryd.func70 (by kernel_rfl) rfl #[.int .i64 (l0_3.length : Int)] rfl tm ?_; (with_reducible refine (layout_up.calls (l0_3.length : Int) t102 _ A8.out).mono ?_); rintro e w' ⟨rfl, ⟨nd, rfl⟩⟩; refine ⟨_, rfl, ?_⟩))
    go_ret3
    exact ⟨te, tg1 HB.out GE101.out⟩
   ·rw [if_neg c9] at H
    have c9b0 : decide ((wrap64 (a1 - (wrap64 (t102 * 16)))) < 0) = false := decide_eq_false c9
    clear c9
    by_cases c12 : (wrap64 (a1 - (wrap64 (t102 * 16)))) ≥ (l0_4.length : Int)
    ·rw [if_pos c12] at H
     have c12b0 : decide ((l0_4.length : Int) ≤ (wrap64 (a1 - (wrap64 (t102 * 16))))) = true := decide_eq_true c12
     clear c12
     simp only [Option.some.injEq, Prod.mk.injEq] at H
     obtain ⟨rfl, rfl, rfl⟩ := H
     go_enter Tryd.func35, Tryd.ntmps35
     go_wp2_with (first | ((with_reducible refine gate_dst (N := 2) rfl ?_); (try (refine gate_guard (by rfl) ?_; dsimp only)); refine box_event ?hg (N := 2) ?hd (cs := #[.string a0_0, .slice A0_1 l0_1.length c0_1, .slice A0_2 l0_2.length c0_2, .slice A0_3 l0_3.length c0_3, .slice A0_4 l0_4.length c0_4, .slice A0_5 l0_5.length c0_5]) (t := 26) ?hr ?_; (case hd => rfl); (case hg => rfl); (case hr => first | (go_simp; done) | (go_simp; rfl)); intro gb101 hg w13 hbox hb; have n0_ := Aside0.mk (below_step (tg HB.out) hb); have n1_ := Aside0.mk (hbox); have n2_ := Aside0.mk ((by rw [hg]; exact (below_size (tg HB.out)) : w.heap.size ≤ gb101)); have n3_ := Aside0.mk ((by rw [hg]; exact (below_size (tg HB.out)) : w.heap.size ≤ gb101)); clear HB; have HB := n0_; have BK101 := n1_; have GW101 := n2_; have GE101 := n3_; clear n0_ n1_ n2_ n3_; clear hb hbox hg; obtain ⟨hcz14_0, hcz14_1, hcz14_2, hcz14_3, hcz14_4, hcz14_5, hfz14_0, hfz14_1, hfz14_2, hfz14_3, hfz14_4, hfz14_5⟩ := cq6 BK101.out) | ((with_reducible refine gate_callee (f := 70) rfl ?_); refine goesL_ (some 19) rfl rfl Tryd.func70 (by kernel_rfl) rfl #[.int .i64 (l0_3.length : Int)] rfl tm ?_; (with_reducible refine (layout_up.calls (l0_3.length : Int) t102 _ A8.out).mono ?_); rintro e w' ⟨rfl, ⟨nd, rfl⟩⟩; refine ⟨_, rfl, ?_⟩))
     go_ret3
     exact ⟨te, tg1 HB.out GE101.out⟩
    ·rw [if_neg c12] at H
     have c12b0 : decide ((l0_4.length : Int) ≤ (wrap64 (a1 - (wrap64 (t102 * 16))))) = false := decide_eq_false c12
     clear c12
     simp only [Option.some.injEq, Prod.mk.injEq] at H
     obtain ⟨rfl, rfl, rfl⟩ := H
     go_enter Tryd.func35, Tryd.ntmps35
     go_wp2_with (first | ((with_reducible refine gate_dst (N := 2) rfl ?_); (try (refine gate_guard (by rfl) ?_; dsimp only)); refine box_event ?hg (N := 2) ?hd (cs := #[.string a0_0, .slice A0_1 l0_1.length c0_1, .slice A0_2 l0_2.length c0_2, .slice A0_3 l0_3.length c0_3, .slice A0_4 l0_4.length c0_4, .slice A0_5 l0_5.length c0_5]) (t := 26) ?hr ?_; (case hd => rfl); (case hg => rfl); (case hr => first | (go_simp; done) | (go_simp; rfl)); intro gb101 hg w15 hbox hb; have n0_ := Aside0.mk (below_step (tg HB.out) hb); have n1_ := Aside0.mk (hbox); have n2_ := Aside0.mk ((by rw [hg]; exact (below_size (tg HB.out)) : w.heap.size ≤ gb101)); have n3_ := Aside0.mk ((by rw [hg]; exact (below_size (tg HB.out)) : w.heap.size ≤ gb101)); clear HB; have HB := n0_; have BK101 := n1_; have GW101 := n2_; have GE101 := n3_; clear n0_ n1_ n2_ n3_; clear hb hbox hg; obtain ⟨hcz16_0, hcz16_1, hcz16_2, hcz16_3, hcz16_4, hcz16_5, hfz16_0, hfz16_1, hfz16_2, hfz16_3, hfz16_4, hfz16_5⟩ := cq6 BK101.out) | ((with_reducible refine gate_callee (f := 70) rfl ?_); refine goesL_ (some 19) rfl rfl Tryd.func70 (by kernel_rfl) rfl #[.int .i64 (l0_3.length : Int)] rfl tm ?_; (with_reducible refine (layout_up.calls (l0_3.length : Int) t102 _ A8.out).mono ?_); rintro e w' ⟨rfl, ⟨nd, rfl⟩⟩; refine ⟨_, rfl, ?_⟩))
     go_ret3
     exact ⟨te, tg1 HB.out GE101.out⟩

end Go.Proofs.YtiphindialkmnaaDoor.X
end
section
namespace Go.Proofs.YtiphindialkmnaaDoor.X
open Go.RowKit Go.Proofs.YtiphindialkmnaaDoorW.PrintWords Go.Proofs.YtiphindialkmnaaDoorW.PrintLast Go.Proofs.YtiphindialkmnaaDoorW.PrintMore
attribute [local go_sem] max2_int min2_int max_two min_two max_three min_three max_four min_four
set_option linter.unusedVariables false
set_option linter.unusedSimpArgs false

/-! ### layout_Raw: function 36 -/
def layout_Raw.f (a0_0 : ByteArray) (l0_1 : List ByteArray) (l0_2 : List ByteArray) (l0_3 : List Int) (l0_4 : List Int) (l0_5 : List (S43)) (a1 : Int) : Option (Int) := (layout_Spot.f a0_0 l0_1 l0_2 l0_3 l0_4 l0_5 a1).bind fun bt102 => (if bt102.2.2 = true then (if bt102.1 = true then (if 0 ≤ bt102.2.1 then (if bt102.2.1 < (l0_3.length : Int) then (some (rd l0_3 bt102.2.1)) else (none)) else (none)) else (if 0 ≤ bt102.2.1 then (if bt102.2.1 < (l0_4.length : Int) then (some (rd l0_4 bt102.2.1)) else (none)) else (none))) else (some 0))
set_option maxHeartbeats 8000000 in
set_option maxRecDepth 100000 in
theorem layout_Raw.calls (a0_0 : ByteArray) (A0_1 : Option Addr) (c0_1 : Nat) (l0_1 : List ByteArray) (A0_2 : Option Addr) (c0_2 : Nat) (l0_2 : List ByteArray) (A0_3 : Option Addr) (c0_3 : Nat) (l0_3 : List Int) (A0_4 : Option Addr) (c0_4 : Nat) (l0_4 : List Int) (A0_5 : Option Addr) (c0_5 : Nat) (l0_5 : List (S43)) (a1 : Int) (r : Int) (w : World) (hr0_1 : Kd.C Kd.string w A0_1 l0_1.length l0_1) (hc0_1 : l0_1.length ≤ c0_1) (hr0_2 : Kd.C Kd.string w A0_2 l0_2.length l0_2) (hc0_2 : l0_2.length ≤ c0_2) (hr0_3 : Kd.C (Kd.int .u32) w A0_3 l0_3.length l0_3) (hc0_3 : l0_3.length ≤ c0_3) (hr0_4 : Kd.C (Kd.int .u32) w A0_4 l0_4.length l0_4) (hc0_4 : l0_4.length ≤ c0_4) (hr0_5 : Kd.C k43 w A0_5 l0_5.length l0_5) (hc0_5 : l0_5.length ≤ c0_5) (h : layout_Raw.f a0_0 l0_1 l0_2 l0_3 l0_4 l0_5 a1 = some r) :
  Calls Tryd.prog 36 #[.agg #[.string a0_0, .slice A0_1 l0_1.length c0_1, .slice A0_2 l0_2.length c0_2, .slice A0_3 l0_3.length c0_3, .slice A0_4 l0_4.length c0_4, .slice A0_5 l0_5.length c0_5], .int .i64 a1] w fun e w' => e = .returned (.int .u32 r) ∧ Below w.heap.size w w' := by
 have hu26 := Tryd.underlying26
 have HR0_1 := Aside0.mk hr0_1
 have HC0_1 := Aside0.mk hc0_1
 clear hr0_1 hc0_1
 have HR0_2 := Aside0.mk hr0_2
 have HC0_2 := Aside0.mk hc0_2
 clear hr0_2 hc0_2
 have HR0_3 := Aside0.mk hr0_3
 have HC0_3 := Aside0.mk hc0_3
 clear hr0_3 hc0_3
 have HR0_4 := Aside0.mk hr0_4
 have HC0_4 := Aside0.mk hc0_4
 clear hr0_4 hc0_4
 have HR0_5 := Aside0.mk hr0_5
 have HC0_5 := Aside0.mk hc0_5
 clear hr0_5 hc0_5
 have HB := Aside0.mk (Below.refl w.heap.size w)
 have H : ((layout_Spot.f a0_0 l0_1 l0_2 l0_3 l0_4 l0_5 a1).bind fun bt102 => (if bt102.2.2 = true then (if bt102.1 = true then (if 0 ≤ bt102.2.1 then (if bt102.2.1 < (l0_3.length : Int) then (some (rd l0_3 bt102.2.1)) else (none)) else (none)) else (if 0 ≤ bt102.2.1 then (if bt102.2.1 < (l0_4.length : Int) then (some (rd l0_4 bt102.2.1)) else (none)) else (none))) else (some 0))) = some r := h
 clear h
 replace H := Option.bind_eq_some_iff.mp H
 obtain ⟨⟨t102, t103, t104⟩, A30, H⟩ := H
 replace H : (if t104 = true then (if t102 = true then (if 0 ≤ t103 then (if t103 < (l0_3.length : Int) then (some (rd l0_3 t103)) else (none)) else (none)) else (if 0 ≤ t103 then (if t103 < (l0_4.length : Int) then (some (rd l0_4 t103)) else (none)) else (none))) else (some 0)) = some r := H
 have A3 := Aside0.mk A30
 clear A30
 by_cases c4 : t104 = true
 ·subst c4
  have H1 : (if t102 = true then (if 0 ≤ t103 then (if t103 < (l0_3.length : Int) then (some (rd l0_3 t103)) else (none)) else (none)) else (if 0 ≤ t103 then (if t103 < (l0_4.length : Int) then (some (rd l0_4 t103)) else (none)) else (none))) = some r := by rw [if_pos rfl] at H; exact H
  clear H
  have H := H1
  clear H1
  by_cases c5 : t102 = true
  ·subst c5
   have H1 : (if 0 ≤ t103 then (if t103 < (l0_3.length : Int) then (some (rd l0_3 t103)) else (none)) else (none)) = some r := by rw [if_pos rfl] at H; exact H
   clear H
   have H := H1
   clear H1
   by_cases c6 : 0 ≤ t103
   ·rw [if_pos c6] at H
    have c6b0 : decide (0 ≤ t103) = true := decide_eq_true c6
    clear c6
    by_cases c7 : t103 < (l0_3.length : Int)
    ·rw [if_pos c7] at H
     have c7b0 : decide (t103 < (l0_3.length : Int)) = true := decide_eq_true c7
     clear c7
     obtain rfl := Option.some.inj H
     go_enter Tryd.func36, Tryd.ntmps36
     go_wp2_with (first | ((with_reducible refine gate_dst (N := 2) rfl ?_); refine box_event ?hg (N := 2) ?hd (cs := #[.string a0_0, .slice A0_1 l0_1.length c0_1, .slice A0_2 l0_2.length c0_2, .slice A0_3 l0_3.length c0_3, .slice A0_4 l0_4.length c0_4, .slice A0_5 l0_5.length c0_5]) (t := 26) ?hr ?_; (case hd => rfl); (case hg => rfl); (case hr => first | (go_simp; done) | (go_simp; rfl)); intro gb101 hg w8 hbox hb; have n0_ := Aside0.mk (below_step (tg HB.out) hb); have n1_ := Aside0.mk (hbox); have n2_ := Aside0.mk ((by rw [hg]; exact (below_size (tg HB.out)) : w.heap.size ≤ gb101)); have n3_ := Aside0.mk ((by rw [hg]; exact (below_size (tg HB.out)) : w.heap.size ≤ gb101)); clear HB; have HB := n0_; have BK101 := n1_; have GW101 := n2_; have GE101 := n3_; clear n0_ n1_ n2_ n3_; clear hb hbox hg; obtain ⟨hcz9_0, hcz9_1, hcz9_2, hcz9_3, hcz9_4, hcz9_5, hfz9_0, hfz9_1, hfz9_2, hfz9_3, hfz9_4, hfz9_5⟩ := cq6 BK101.out) | ((with_reducible refine gate_callee (f := 35) rfl ?_); refine goesL_ (some 11) rfl rfl Tryd.func35 (by kernel_rfl) rfl #[.agg #[.string a0_0, .slice A0_1 l0_1.length c0_1, .slice A0_2 l0_2.length c0_2, .slice A0_3 l0_3.length c0_3, .slice A0_4 l0_4.length c0_4, .slice A0_5 l0_5.length c0_5], .int .i64 a1] rfl tm ?_; (with_reducible refine (layout_Spot.calls a0_0 _ _ l0_1 _ _ l0_2 _ _ l0_3 _ _ l0_4 _ _ l0_5 a1 true t103 true _ (tc (Kd.C_below HR0_1.out HB.out)) HC0_1.out (tc (Kd.C_below HR0_2.out HB.out)) HC0_2.out (tc (Kd.C_below HR0_3.out HB.out)) HC0_3.out (tc (Kd.C_below HR0_4.out HB.out)) HC0_4.out (tc (Kd.C_below HR0_5.out HB.out)) HC0_5.out A3.out).mono ?_); rintro e w10 ⟨rfl, hb⟩; refine ⟨_, rfl, ?_⟩; replace BK101 := ba BK101.out hb; replace HB := Aside0.mk (below_step (tg1 HB.out GE101.out) hb); (try clear hb); obtain ⟨hcz11_0, hcz11_1, hcz11_2, hcz11_3, hcz11_4, hcz11_5, hfz11_0, hfz11_1, hfz11_2, hfz11_3, hfz11_4, hfz11_5⟩ := cq6 BK101.out; have p105 : 0 ≤ (t103 : Int) := td; have q105 : t103 < (l0_3.length : Int) := td; obtain ⟨ad105, e105, hx105_0⟩ := Kd.at_int HR0_3.out t103 p105 q105; cases e105; replace hx105_0 := (HB.out.cell (World.block_lt_of_cell? w _ hx105_0)).trans hx105_0; replace p105 := eq_true p105; replace q105 := eq_true q105))
     go_ret
     exact ⟨te, tg1 HB.out GE101.out⟩
    ·rw [if_neg c7] at H
     exact absurd H (by simp)
   ·rw [if_neg c6] at H
    exact absurd H (by simp)
  ·replace c5 := Bool.eq_false_iff.mpr c5
   subst c5
   have H1 : (if 0 ≤ t103 then (if t103 < (l0_4.length : Int) then (some (rd l0_4 t103)) else (none)) else (none)) = some r := by rw [if_neg (show ¬ (false = true) by decide)] at H; exact H
   clear H
   have H := H1
   clear H1
   by_cases c12 : 0 ≤ t103
   ·rw [if_pos c12] at H
    have c12b0 : decide (0 ≤ t103) = true := decide_eq_true c12
    clear c12
    by_cases c13 : t103 < (l0_4.length : Int)
    ·rw [if_pos c13] at H
     have c13b0 : decide (t103 < (l0_4.length : Int)) = true := decide_eq_true c13
     clear c13
     obtain rfl := Option.some.inj H
     go_enter Tryd.func36, Tryd.ntmps36
     go_wp2_with (first | ((with_reducible refine gate_dst (N := 2) rfl ?_); refine box_event ?hg (N := 2) ?hd (cs := #[.string a0_0, .slice A0_1 l0_1.length c0_1, .slice A0_2 l0_2.length c0_2, .slice A0_3 l0_3.length c0_3, .slice A0_4 l0_4.length c0_4, .slice A0_5 l0_5.length c0_5]) (t := 26) ?hr ?_; (case hd => rfl); (case hg => rfl); (case hr => first | (go_simp; done) | (go_simp; rfl)); intro gb101 hg w14 hbox hb; have n0_ := Aside0.mk (below_step (tg HB.out) hb); have n1_ := Aside0.mk (hbox); have n2_ := Aside0.mk ((by rw [hg]; exact (below_size (tg HB.out)) : w.heap.size ≤ gb101)); have n3_ := Aside0.mk ((by rw [hg]; exact (below_size (tg HB.out)) : w.heap.size ≤ gb101)); clear HB; have HB := n0_; have BK101 := n1_; have GW101 := n2_; have GE101 := n3_; clear n0_ n1_ n2_ n3_; clear hb hbox hg; obtain ⟨hcz15_0, hcz15_1, hcz15_2, hcz15_3, hcz15_4, hcz15_5, hfz15_0, hfz15_1, hfz15_2, hfz15_3, hfz15_4, hfz15_5⟩ := cq6 BK101.out) | ((with_reducible refine gate_callee (f := 35) rfl ?_); refine goesL_ (some 11) rfl rfl Tryd.func35 (by kernel_rfl) rfl #[.agg #[.string a0_0, .slice A0_1 l0_1.length c0_1, .slice A0_2 l0_2.length c0_2, .slice A0_3 l0_3.length c0_3, .slice A0_4 l0_4.length c0_4, .slice A0_5 l0_5.length c0_5], .int .i64 a1] rfl tm ?_; (with_reducible refine (layout_Spot.calls a0_0 _ _ l0_1 _ _ l0_2 _ _ l0_3 _ _ l0_4 _ _ l0_5 a1 false t103 true _ (tc (Kd.C_below HR0_1.out HB.out)) HC0_1.out (tc (Kd.C_below HR0_2.out HB.out)) HC0_2.out (tc (Kd.C_below HR0_3.out HB.out)) HC0_3.out (tc (Kd.C_below HR0_4.out HB.out)) HC0_4.out (tc (Kd.C_below HR0_5.out HB.out)) HC0_5.out A3.out).mono ?_); rintro e w16 ⟨rfl, hb⟩; refine ⟨_, rfl, ?_⟩; replace BK101 := ba BK101.out hb; replace HB := Aside0.mk (below_step (tg1 HB.out GE101.out) hb); (try clear hb); obtain ⟨hcz17_0, hcz17_1, hcz17_2, hcz17_3, hcz17_4, hcz17_5, hfz17_0, hfz17_1, hfz17_2, hfz17_3, hfz17_4, hfz17_5⟩ := cq6 BK101.out; have p106 : 0 ≤ (t103 : Int) := td; have q106 : t103 < (l0_4.length : Int) := td; obtain ⟨ad106, e106, hx106_0⟩ := Kd.at_int HR0_4.out t103 p106 q106; cases e106; replace hx106_0 := (HB.out.cell (World.block_lt_of_cell? w _ hx106_0)).trans hx106_0; replace p106 := eq_true p106; replace q106 := eq_true q106))
     go_ret
     exact ⟨te, tg1 HB.out GE101.out⟩
    ·rw [if_neg c13] at H
     exact absurd H (by simp)
   ·rw [if_neg c12] at H
    exact absurd H (by simp)
 ·replace c4 := Bool.eq_false_iff.mpr c4
  subst c4
  have H1 : (some 0) = some r := by rw [if_neg (show ¬ (false = true) by decide)] at H; exact H
  clear H
  have H := H1
  clear H1
  obtain rfl := Option.some.inj H
  go_enter Tryd.func36, Tryd.ntmps36
  go_wp2_with (first | ((with_reducible refine gate_dst (N := 2) rfl ?_); refine box_event ?hg (N := 2) ?hd (cs := #[.string a0_0, .slice A0_1 l0_1.length c0_1, .slice A0_2 l0_2.length c0_2, .slice A0_3 l0_3.length c0_3, .slice A0_4 l0_4.length c0_4, .slice A0_5 l0_5.length c0_5]) (t := 26) ?hr ?_; (case hd => rfl); (case hg => rfl); (case hr => first | (go_simp; done) | (go_simp; rfl)); intro gb101 hg w18 hbox hb; have n0_ := Aside0.mk (below_step (tg HB.out) hb); have n1_ := Aside0.mk (hbox); have n2_ := Aside0.mk ((by rw [hg]; exact (below_size (tg HB.out)) : w.heap.size ≤ gb101)); have n3_ := Aside0.mk ((by rw [hg]; exact (below_size (tg HB.out)) : w.heap.size ≤ gb101)); clear HB; have HB := n0_; have BK101 := n1_; have GW101 := n2_; have GE101 := n3_; clear n0_ n1_ n2_ n3_; clear hb hbox hg; obtain ⟨hcz19_0, hcz19_1, hcz19_2, hcz19_3, hcz19_4, hcz19_5, hfz19_0, hfz19_1, hfz19_2, hfz19_3, hfz19_4, hfz19_5⟩ := cq6 BK101.out) | ((with_reducible refine gate_callee (f := 35) rfl ?_); refine goesL_ (some 11) rfl rfl Tryd.func35 (by kernel_rfl) rfl #[.agg #[.string a0_0, .slice A0_1 l0_1.length c0_1, .slice A0_2 l0_2.length c0_2, .slice A0_3 l0_3.length c0_3, .slice A0_4 l0_4.length c0_4, .slice A0_5 l0_5.length c0_5], .int .i64 a1] rfl tm ?_; (with_reducible refine (layout_Spot.calls a0_0 _ _ l0_1 _ _ l0_2 _ _ l0_3 _ _ l0_4 _ _ l0_5 a1 t102 t103 false _ (tc (Kd.C_below HR0_1.out HB.out)) HC0_1.out (tc (Kd.C_below HR0_2.out HB.out)) HC0_2.out (tc (Kd.C_below HR0_3.out HB.out)) HC0_3.out (tc (Kd.C_below HR0_4.out HB.out)) HC0_4.out (tc (Kd.C_below HR0_5.out HB.out)) HC0_5.out A3.out).mono ?_); rintro e w20 ⟨rfl, hb⟩; refine ⟨_, rfl, ?_⟩; replace BK101 := ba BK101.out hb; replace HB := Aside0.mk (below_step (tg1 HB.out GE101.out) hb); (try clear hb)))
  go_ret
  exact ⟨te, tg1 HB.out GE101.out⟩

end Go.Proofs.YtiphindialkmnaaDoor.X
end
section
namespace Go.Proofs.YtiphindialkmnaaDoor.X
open Go.RowKit Go.Proofs.YtiphindialkmnaaDoorW.PrintWords Go.Proofs.YtiphindialkmnaaDoorW.PrintLast Go.Proofs.YtiphindialkmnaaDoorW.PrintMore
attribute [local go_sem] max2_int min2_int max_two min_two max_three min_three max_four min_four
set_option linter.unusedVariables false
set_option linter.unusedSimpArgs false

/-! ### reloc_Value: function 101 -/
mutual
def reloc_Value.j0 : Nat → List Int → Int → Int → Bool → Int → Int → Int → Int → Int → Option (Int × Int)
 | 0, _, _, _, _, _, _, _, _, _ => none
 | k + 1, x2, x8, x12, x13, x102000, x102001, x102002, x103000, x103001 => if x13 = true then (if (wrap64 (x102002)) ≥ (x2.length : Int) then (some (0, 2)) else (if 0 ≤ x102002 then (if x102002 < (x2.length : Int) then (some (rd x2 x102002, 0)) else (none)) else (none))) else (if x12 = 2 then (reloc_Value.j1 k x8 x12 (x12 == 2) x102000 x102001 x102002 x103000 x103001) else (reloc_Value.j1 k x8 x12 (x12 == 5) x102000 x102001 x102002 x103000 x103001))
def reloc_Value.j1 : Nat → Int → Int → Bool → Int → Int → Int → Int → Int → Option (Int × Int)
 | 0, _, _, _, _, _, _, _, _ => none
 | k + 1, x8, x12, x17, x102000, x102001, x102002, x103000, x103001 => if x17 = true then (some ((x103001 + ((x102002) % 4294967296)) % 4294967296, 0)) else (if x12 = 3 then (reloc_Value.j2 k x8 (x12 == 3) x102000 x102001 x102002) else (if x12 = 6 then (reloc_Value.j2 k x8 (x12 == 6) x102000 x102001 x102002) else (reloc_Value.j2 k x8 (x12 == 7) x102000 x102001 x102002)))
def reloc_Value.j2 : Nat → Int → Bool → Int → Int → Int → Option (Int × Int)
 | 0, _, _, _, _, _ => none
 | k + 1, x8, x20, x102000, x102001, x102002 => if x20 = true then (some ((x8 + ((x102002) % 4294967296)) % 4294967296, 0)) else (some (0, 2))
end
def reloc_Value.f (k : Nat) (a0_0 : Int) (a0_1 : Int) (a0_2 : Int) (a1_0 : Int) (a1_1 : Int) (l2 : List Int) : Option (Int × Int) := if a0_0 = 0 then (reloc_Value.j0 k l2 a1_0 a0_0 (a0_0 == 0) a0_0 a0_1 a0_2 a1_0 a1_1) else (if a0_0 = 1 then (reloc_Value.j0 k l2 a1_0 a0_0 (a0_0 == 1) a0_0 a0_1 a0_2 a1_0 a1_1) else (reloc_Value.j0 k l2 a1_0 a0_0 (a0_0 == 4) a0_0 a0_1 a0_2 a1_0 a1_1))
theorem reloc_Value.mono_l : ∀ k, (∀ y0 y1 y2 y3 y4 y5 y6 y7 y8, LeO (reloc_Value.j0 k y0 y1 y2 y3 y4 y5 y6 y7 y8) (reloc_Value.j0 (k + 1) y0 y1 y2 y3 y4 y5 y6 y7 y8)) ∧ (∀ y0 y1 y2 y3 y4 y5 y6 y7, LeO (reloc_Value.j1 k y0 y1 y2 y3 y4 y5 y6 y7) (reloc_Value.j1 (k + 1) y0 y1 y2 y3 y4 y5 y6 y7)) ∧ (∀ y0 y1 y2 y3 y4, LeO (reloc_Value.j2 k y0 y1 y2 y3 y4) (reloc_Value.j2 (k + 1) y0 y1 y2 y3 y4))
 | 0 => ⟨fun _ _ _ _ _ _ _ _ _ r h => by simp [reloc_Value.j0] at h, fun _ _ _ _ _ _ _ _ r h => by simp [reloc_Value.j1] at h, fun _ _ _ _ _ r h => by simp [reloc_Value.j2] at h⟩
 | k + 1 => by
  obtain ⟨ih0, ih1, ih2⟩ := reloc_Value.mono_l k
  refine ⟨?_, ?_, ?_⟩
  ·intro y0 y1 y2 y3 y4 y5 y6 y7 y8
   unfold reloc_Value.j0
   repeat' first
   | (with_reducible exact ih0 _ _ _ _ _ _ _ _ _)
   | (with_reducible exact ih1 _ _ _ _ _ _ _ _)
   | (with_reducible exact ih2 _ _ _ _ _)
   | (with_reducible exact LeO.refl _)
   | (with_reducible exact LeO.none _)
   | (with_reducible refine LeO.ite ?_ ?_)
   | (with_reducible refine LeO.bind ?_ (fun _ => ?_))
  ·intro y0 y1 y2 y3 y4 y5 y6 y7
   unfold reloc_Value.j1
   repeat' first
   | (with_reducible exact ih0 _ _ _ _ _ _ _ _ _)
   | (with_reducible exact ih1 _ _ _ _ _ _ _ _)
   | (with_reducible exact ih2 _ _ _ _ _)
   | (with_reducible exact LeO.refl _)
   | (with_reducible exact LeO.none _)
   | (with_reducible refine LeO.ite ?_ ?_)
   | (with_reducible refine LeO.bind ?_ (fun _ => ?_))
  ·intro y0 y1 y2 y3 y4
   unfold reloc_Value.j2
   repeat' first
   | (with_reducible exact ih0 _ _ _ _ _ _ _ _ _)
   | (with_reducible exact ih1 _ _ _ _ _ _ _ _)
   | (with_reducible exact ih2 _ _ _ _ _)
   | (with_reducible exact LeO.refl _)
   | (with_reducible exact LeO.none _)
   | (with_reducible refine LeO.ite ?_ ?_)
   | (with_reducible refine LeO.bind ?_ (fun _ => ?_))
theorem reloc_Value.mono : ∀ a0 a1 a2 a3 a4 a5 k, LeO (reloc_Value.f k a0 a1 a2 a3 a4 a5) (reloc_Value.f (k + 1) a0 a1 a2 a3 a4 a5) := by
 intro a0 a1 a2 a3 a4 a5 k
 obtain ⟨ih0, ih1, ih2⟩ := reloc_Value.mono_l k
 unfold reloc_Value.f
 repeat' first
   | (with_reducible exact ih0 _ _ _ _ _ _ _ _ _)
   | (with_reducible exact ih1 _ _ _ _ _ _ _ _)
   | (with_reducible exact ih2 _ _ _ _ _)
   | (with_reducible exact LeO.refl _)
   | (with_reducible exact LeO.none _)
   | (with_reducible refine LeO.ite ?_ ?_)
   | (with_reducible refine LeO.bind ?_ (fun _ => ?_))
set_option maxHeartbeats 8000000 in
set_option maxRecDepth 100000 in
theorem reloc_Value.calls (k : Nat) (a0_0 : Int) (a0_1 : Int) (a0_2 : Int) (a1_0 : Int) (a1_1 : Int) (A2 : Option Addr) (c2 : Nat) (l2 : List Int) (r1 : Int) (r2 : Int) (w : World) (hr2 : Kd.C (Kd.int .u32) w A2 l2.length l2) (hc2 : l2.length ≤ c2) (h : reloc_Value.f k a0_0 a0_1 a0_2 a1_0 a1_1 l2 = some (r1, r2)) :
  Calls Tryd.prog 101 #[.agg #[.int .u8 a0_0, .int .u16 a0_1, .int .u16 a0_2], .agg #[.int .u32 a1_0, .int .u32 a1_1], .slice A2 l2.length c2] w fun e w' => e = .returned (.tuple #[.int .u32 r1, .int .i64 r2]) ∧ Below w.heap.size w w' := by
 have hu43 := Tryd.underlying43
 have hu73 := Tryd.underlying73
 have HR2 := Aside0.mk hr2
 have HC2 := Aside0.mk hc2
 clear hr2 hc2
 have HB := Aside0.mk (Below.refl w.heap.size w)
 have H : (if a0_0 = 0 then (reloc_Value.j0 k l2 a1_0 a0_0 (a0_0 == 0) a0_0 a0_1 a0_2 a1_0 a1_1) else (if a0_0 = 1 then (reloc_Value.j0 k l2 a1_0 a0_0 (a0_0 == 1) a0_0 a0_1 a0_2 a1_0 a1_1) else (reloc_Value.j0 k l2 a1_0 a0_0 (a0_0 == 4) a0_0 a0_1 a0_2 a1_0 a1_1))) = some (r1, r2) := h
 clear h
 have HC4 := Aside0.mk H
 clear H
 go_enter Tryd.func101, Tryd.ntmps101
 go_upto_if 13 with (first | ((with_reducible refine gate_dst (N := 3) rfl ?_); refine box_event ?hg (N := 3) ?hd (cs := #[.int .u8 a0_0, .int .u16 a0_1, .int .u16 a0_2]) (t := 43) ?hr ?_; (case hd => rfl); (case hg => rfl); (case hr => first | (go_simp; done) | (go_simp; rfl)); intro gb101 hg w5 hbox hb; have n0_ := Aside0.mk (below_step (tg HB.out) hb); have n1_ := Aside0.mk (hbox); have n2_ := Aside0.mk ((by rw [hg]; exact (below_size (tg HB.out)) : w.heap.size ≤ gb101)); have n3_ := Aside0.mk ((by rw [hg]; exact (below_size (tg HB.out)) : w.heap.size ≤ gb101)); clear HB; have HB := n0_; have BK101 := n1_; have GW101 := n2_; have GE101 := n3_; clear n0_ n1_ n2_ n3_; clear hb hbox hg) | ((with_reducible refine gate_dst (N := 4) rfl ?_); refine box_event ?hg (N := 4) ?hd (cs := #[.int .u32 a1_0, .int .u32 a1_1]) (t := 73) ?hr ?_; (case hd => rfl); (case hg => rfl); (case hr => first | (go_simp; done) | (go_simp; rfl)); intro gb102 hg w6 hbox hb; have n0_ := ba BK101.out hb; have n1_ := Aside0.mk (below_step (tg1 HB.out GE101.out) hb); have n2_ := Aside0.mk (hbox); have n3_ := Aside0.mk ((by rw [hg]; exact (below_size (tg1 HB.out GE101.out)) : w.heap.size ≤ gb102)); have n4_ := Aside0.mk ((by rw [hg]; exact (below_size (tg1 HB.out GE101.out)) : w.heap.size ≤ gb102)); have n5_ := Aside0.mk ((by rw [hg]; exact Nat.ne_of_lt (blk_lt (g := gb101) (o := .cells #[.int .u8 a0_0, .int .u16 a0_1, .int .u16 a0_2] 43 (0, 0)) (tb BK101.out)) : gb101 ≠ gb102)); have n6_ := Aside0.mk ((by rw [hg]; exact Nat.ne_of_gt (blk_lt (g := gb101) (o := .cells #[.int .u8 a0_0, .int .u16 a0_1, .int .u16 a0_2] 43 (0, 0)) (tb BK101.out)) : gb102 ≠ gb101)); clear BK101; clear HB; have BK101 := n0_; have HB := n1_; have BK102 := n2_; have GW102 := n3_; have GE102 := n4_; have NB101_102 := n5_; have NB102_101 := n6_; clear n0_ n1_ n2_ n3_ n4_ n5_ n6_; clear hb hbox hg; have hnb7 := NB102_101.out; have hnc7 := NB101_102.out; obtain ⟨hcz8_0, hcz8_1, hfz8_0, hfz8_1⟩ := cq2 BK102.out; obtain ⟨hcz9_0, hcz9_1, hcz9_2, hfz9_0, hfz9_1, hfz9_2⟩ := cq3 BK101.out))
 (try simp only [Act.put, List.setIfInBounds_toArray, List.set_cons_zero, List.set_cons_succ])
 go_cut [13] (fun v13 wc => ∃ (kq : Nat) (x13_3 : Bool), v13 = .bool x13_3 ∧ Aside0 (reloc_Value.j0 kq l2 a1_0 a0_0 x13_3 a0_0 a0_1 a0_2 a1_0 a1_1 = some (r1, r2)) ∧ Aside0 (kq ≤ k) ∧ Aside0 (wc.heap[gb101]? = some (.cells #[.int .u8 a0_0, .int .u16 a0_1, .int .u16 a0_2] 43 (0, 0))) ∧ Aside0 (wc.heap[gb102]? = some (.cells #[.int .u32 a1_0, .int .u32 a1_1] 73 (0, 0))) ∧ Aside0 (Below w.heap.size w wc))
 case first =>
  have H := HC4.out
  clear HC4
  by_cases c10 : a0_0 = 0
  ·rw [if_pos c10] at H
   have c10b0 : (a0_0 == 0) = true := beq_iff_eq.mpr c10
   have c10b1 : (a0_0 != 0) = false := bne_eq_false_iff_eq.mpr c10
   clear c10
   (first | rw [c10b0] | (simp only [i64_w, i32_w]; rw [c10b0]) | skip)
   have H' := Aside0.mk H
   clear H
   go_wp2
   go_meet
   case rel => exact ⟨_, ((a0_0 == 0)), ts, H', ⟨tn⟩, ⟨tb BK101.out⟩, ⟨tb BK102.out⟩, ⟨tg2 HB.out GE101.out GE102.out⟩⟩
  ·rw [if_neg c10] at H
   have c10b0 : (a0_0 == 0) = false := beq_eq_false_iff_ne.mpr c10
   have c10b1 : (a0_0 != 0) = true := bne_iff_ne.mpr c10
   (first | rw [c10b0] | (simp only [i64_w, i32_w]; rw [c10b0]) | skip)
   by_cases c11 : a0_0 = 1
   ·rw [if_pos c11] at H
    have c11b0 : (a0_0 == 1) = true := beq_iff_eq.mpr c11
    have c11b1 : (a0_0 != 1) = false := bne_eq_false_iff_eq.mpr c11
    clear c11
    have H' := Aside0.mk H
    clear H
    go_wp2
    go_meet
    case rel => exact ⟨_, ((a0_0 == 1)), ts, H', ⟨tn⟩, ⟨tb BK101.out⟩, ⟨tb BK102.out⟩, ⟨tg2 HB.out GE101.out GE102.out⟩⟩
   ·rw [if_neg c11] at H
    have c11b0 : (a0_0 == 1) = false := beq_eq_false_iff_ne.mpr c11
    have c11b1 : (a0_0 != 1) = true := bne_iff_ne.mpr c11
    have H' := Aside0.mk H
    clear H
    go_wp2
    go_meet
    case rel => exact ⟨_, ((a0_0 == 4)), ts, H', ⟨tn⟩, ⟨tb BK101.out⟩, ⟨tb BK102.out⟩, ⟨tg2 HB.out GE101.out GE102.out⟩⟩
 case rest =>
  clear HC4
  try clear c1
  try clear c2
  try clear p2
  try clear c7
  try clear c10
  try clear c10b0
  try clear c10b1
  try clear c11
  try clear c11b0
  try clear c11b1
  try clear hcz8_0 hcz8_1 hfz8_0 hfz8_1
  try clear hcz9_0 hcz9_1 hcz9_2 hfz9_0 hfz9_1 hfz9_2
  obtain ⟨kq, x13_3, rfl, HA, HJ3, BK101, BK102, HB⟩ := hcut
  cases kq with
  | zero => exact absurd HA.out (by simp [reloc_Value.j0])
  | succ kj3 =>
   have H := HA.out
   clear HA
   simp only [reloc_Value.j0] at H
   by_cases c12 : x13_3 = true
   ·subst c12
    have H1 : (if (wrap64 (a0_2)) ≥ (l2.length : Int) then (some (0, 2)) else (if 0 ≤ a0_2 then (if a0_2 < (l2.length : Int) then (some (rd l2 a0_2, 0)) else (none)) else (none))) = some (r1, r2) := by rw [if_pos rfl] at H; exact H
    clear H
    have H := H1
    clear H1
    by_cases c13 : (wrap64 (a0_2)) ≥ (l2.length : Int)
    ·rw [if_pos c13] at H
     have c13b0 : decide ((l2.length : Int) ≤ (wrap64 (a0_2))) = true := decide_eq_true c13
     clear c13
     simp only [Option.some.injEq, Prod.mk.injEq] at H
     obtain ⟨rfl, rfl⟩ := H
     have hnb14 := NB101_102.out
     have hnc14 := NB102_101.out
     obtain ⟨hcz15_0, hcz15_1, hcz15_2, hfz15_0, hfz15_1, hfz15_2⟩ := cq3 BK101.out
     go_wp2
     go_ret2
     exact ⟨te, tg2 HB.out GE101.out GE102.out⟩
    ·rw [if_neg c13] at H
     have c13b0 : decide ((l2.length : Int) ≤ (wrap64 (a0_2))) = false := decide_eq_false c13
     clear c13
     by_cases c16 : 0 ≤ a0_2
     ·rw [if_pos c16] at H
      have c16b0 : decide (0 ≤ a0_2) = true := decide_eq_true c16
      clear c16
      by_cases c17 : a0_2 < (l2.length : Int)
      ·rw [if_pos c17] at H
       have c17b0 : decide (a0_2 < (l2.length : Int)) = true := decide_eq_true c17
       clear c17
       simp only [Option.some.injEq, Prod.mk.injEq] at H
       obtain ⟨rfl, rfl⟩ := H
       have hnb18 := NB101_102.out
       have hnc18 := NB102_101.out
       obtain ⟨hcz19_0, hcz19_1, hcz19_2, hfz19_0, hfz19_1, hfz19_2⟩ := cq3 BK101.out
       have p103 : 0 ≤ (a0_2 : Int) := td
       have q103 : a0_2 < (l2.length : Int) := td
       obtain ⟨ad103, e103, hx103_0⟩ := Kd.at_int HR2.out a0_2 p103 q103
       cases e103
       replace hx103_0 := (HB.out.cell (World.block_lt_of_cell? w _ hx103_0)).trans hx103_0
       replace p103 := eq_true p103
       replace q103 := eq_true q103
       go_wp2
       go_ret2
       exact ⟨te, tg2 HB.out GE101.out GE102.out⟩
      ·rw [if_neg c17] at H
       exact absurd H (by simp)
     ·rw [if_neg c16] at H
      exact absurd H (by simp)
   ·replace c12 := Bool.eq_false_iff.mpr c12
    subst c12
    have H1 : (if a0_0 = 2 then (reloc_Value.j1 kj3 a1_0 a0_0 (a0_0 == 2) a0_0 a0_1 a0_2 a1_0 a1_1) else (reloc_Value.j1 kj3 a1_0 a0_0 (a0_0 == 5) a0_0 a0_1 a0_2 a1_0 a1_1)) = some (r1, r2) := by rw [if_neg (show ¬ (false = true) by decide)] at H; exact H
    clear H
    have H := H1
    clear H1
    have HC20 := Aside0.mk H
    clear H
    go_upto_if 17 with (fail)
    go_cut [17] (fun v17 wc => ∃ (kq : Nat) (x17_19 : Bool), v17 = .bool x17_19 ∧ Aside0 (reloc_Value.j1 kq a1_0 a0_0 x17_19 a0_0 a0_1 a0_2 a1_0 a1_1 = some (r1, r2)) ∧ Aside0 (kq ≤ kj3) ∧ Aside0 (wc.heap[gb101]? = some (.cells #[.int .u8 a0_0, .int .u16 a0_1, .int .u16 a0_2] 43 (0, 0))) ∧ Aside0 (wc.heap[gb102]? = some (.cells #[.int .u32 a1_0, .int .u32 a1_1] 73 (0, 0))) ∧ Aside0 (Below w.heap.size w wc))
    case first =>
     have H := HC20.out
     clear HC20
     by_cases c21 : a0_0 = 2
     ·rw [if_pos c21] at H
      have c21b0 : (a0_0 == 2) = true := beq_iff_eq.mpr c21
      have c21b1 : (a0_0 != 2) = false := bne_eq_false_iff_eq.mpr c21
      clear c21
      (first | rw [c21b0] | (simp only [i64_w, i32_w]; rw [c21b0]) | skip)
      have H' := Aside0.mk H
      clear H
      go_wp2
      go_meet
      case rel => exact ⟨_, ((a0_0 == 2)), ts, H', ⟨by have := HJ3.out; first | omega | exact Nat.le_refl _⟩, ⟨tb BK101.out⟩, ⟨tb BK102.out⟩, ⟨tg2 HB.out GE101.out GE102.out⟩⟩
     ·rw [if_neg c21] at H
      have c21b0 : (a0_0 == 2) = false := beq_eq_false_iff_ne.mpr c21
      have c21b1 : (a0_0 != 2) = true := bne_iff_ne.mpr c21
      (first | rw [c21b0] | (simp only [i64_w, i32_w]; rw [c21b0]) | skip)
      have H' := Aside0.mk H
      clear H
      go_wp2
      go_meet
      case rel => exact ⟨_, ((a0_0 == 5)), ts, H', ⟨by have := HJ3.out; first | omega | exact Nat.le_refl _⟩, ⟨tb BK101.out⟩, ⟨tb BK102.out⟩, ⟨tg2 HB.out GE101.out GE102.out⟩⟩
    case rest =>
     clear HC20
     try clear c1
     try clear p1
     try clear q1
     try clear hx1
     try clear c2
     try clear p2
     try clear p6
     try clear c7
     try clear c10
     try clear c10b0
     try clear c10b1
     try clear p10
     try clear q10
     try clear hx10
     try clear c11
     try clear c11b0
     try clear c11b1
     try clear c12
     try clear c13
     try clear c13b0
     try clear c14
     try clear c16
     try clear c16b0
     try clear c17
     try clear c17b0
     try clear c18
     try clear c21
     try clear c21b0
     try clear c21b1
     try clear hcz15_0 hcz15_1 hcz15_2 hfz15_0 hfz15_1 hfz15_2
     try clear hcz19_0 hcz19_1 hcz19_2 hfz19_0 hfz19_1 hfz19_2
     try clear hcz8_0 hcz8_1 hfz8_0 hfz8_1
     try clear hcz9_0 hcz9_1 hcz9_2 hfz9_0 hfz9_1 hfz9_2
     try clear hx103_0
     try clear p103
     try clear p2
     try clear q103
     obtain ⟨kq, x17_19, rfl, HA, HJ19, BK101, BK102, HB⟩ := hcut
     cases kq with
     | zero => exact absurd HA.out (by simp [reloc_Value.j1])
     | succ kj19 =>
      have H := HA.out
      clear HA
      simp only [reloc_Value.j1] at H
      by_cases c22 : x17_19 = true
      ·subst c22
       have H1 : (some ((a1_1 + ((a0_2) % 4294967296)) % 4294967296, 0)) = some (r1, r2) := by rw [if_pos rfl] at H; exact H
       clear H
       have H := H1
       clear H1
       simp only [Option.some.injEq, Prod.mk.injEq] at H
       obtain ⟨rfl, rfl⟩ := H
       have hnb23 := NB102_101.out
       have hnc23 := NB101_102.out
       obtain ⟨hcz24_0, hcz24_1, hfz24_0, hfz24_1⟩ := cq2 BK102.out
       obtain ⟨hcz25_0, hcz25_1, hcz25_2, hfz25_0, hfz25_1, hfz25_2⟩ := cq3 BK101.out
       go_wp2
       go_ret2
       exact ⟨te, tg2 HB.out GE101.out GE102.out⟩
      ·replace c22 := Bool.eq_false_iff.mpr c22
       subst c22
       have H1 : (if a0_0 = 3 then (reloc_Value.j2 kj19 a1_0 (a0_0 == 3) a0_0 a0_1 a0_2) else (if a0_0 = 6 then (reloc_Value.j2 kj19 a1_0 (a0_0 == 6) a0_0 a0_1 a0_2) else (reloc_Value.j2 kj19 a1_0 (a0_0 == 7) a0_0 a0_1 a0_2))) = some (r1, r2) := by rw [if_neg (show ¬ (false = true) by decide)] at H; exact H
       clear H
       have H := H1
       clear H1
       have HC26 := Aside0.mk H
       clear H
       go_upto_if 20 with (fail)
       go_cut [20] (fun v20 wc => ∃ (kq : Nat) (x20_25 : Bool), v20 = .bool x20_25 ∧ Aside0 (reloc_Value.j2 kq a1_0 x20_25 a0_0 a0_1 a0_2 = some (r1, r2)) ∧ Aside0 (kq ≤ kj19) ∧ Aside0 (wc.heap[gb101]? = some (.cells #[.int .u8 a0_0, .int .u16 a0_1, .int .u16 a0_2] 43 (0, 0))) ∧ Aside0 (wc.heap[gb102]? = some (.cells #[.int .u32 a1_0, .int .u32 a1_1] 73 (0, 0))) ∧ Aside0 (Below w.heap.size w wc))
       case first =>
        have H := HC26.out
        clear HC26
        by_cases c27 : a0_0 = 3
        ·rw [if_pos c27] at H
         have c27b0 : (a0_0 == 3) = true := beq_iff_eq.mpr c27
         have c27b1 : (a0_0 != 3) = false := bne_eq_false_iff_eq.mpr c27
         clear c27
         (first | rw [c27b0] | (simp only [i64_w, i32_w]; rw [c27b0]) | skip)
         have H' := Aside0.mk H
         clear H
         go_wp2
         go_meet
         case rel => exact ⟨_, ((a0_0 == 3)), ts, H', ⟨by have := HJ3.out; have := HJ19.out; first | omega | exact Nat.le_refl _⟩, ⟨tb BK101.out⟩, ⟨tb BK102.out⟩, ⟨tg2 HB.out GE101.out GE102.out⟩⟩
        ·rw [if_neg c27] at H
         have c27b0 : (a0_0 == 3) = false := beq_eq_false_iff_ne.mpr c27
         have c27b1 : (a0_0 != 3) = true := bne_iff_ne.mpr c27
         (first | rw [c27b0] | (simp only [i64_w, i32_w]; rw [c27b0]) | skip)
         by_cases c28 : a0_0 = 6
         ·rw [if_pos c28] at H
          have c28b0 : (a0_0 == 6) = true := beq_iff_eq.mpr c28
          have c28b1 : (a0_0 != 6) = false := bne_eq_false_iff_eq.mpr c28
          clear c28
          have H' := Aside0.mk H
          clear H
          go_wp2
          go_meet
          case rel => exact ⟨_, ((a0_0 == 6)), ts, H', ⟨by have := HJ3.out; have := HJ19.out; first | omega | exact Nat.le_refl _⟩, ⟨tb BK101.out⟩, ⟨tb BK102.out⟩, ⟨tg2 HB.out GE101.out GE102.out⟩⟩
         ·rw [if_neg c28] at H
          have c28b0 : (a0_0 == 6) = false := beq_eq_false_iff_ne.mpr c28
          have c28b1 : (a0_0 != 6) = true := bne_iff_ne.mpr c28
          have H' := Aside0.mk H
          clear H
          go_wp2
          go_meet
          case rel => exact ⟨_, ((a0_0 == 7)), ts, H', ⟨by have := HJ3.out; have := HJ19.out; first | omega | exact Nat.le_refl _⟩, ⟨tb BK101.out⟩, ⟨tb BK102.out⟩, ⟨tg2 HB.out GE101.out GE102.out⟩⟩
       case rest =>
        clear HC26
        try clear c1
        try clear p1
        try clear q1
        try clear hx1
        try clear c2
        try clear p2
        try clear p6
        try clear c7
        try clear c10
        try clear c10b0
        try clear c10b1
        try clear p10
        try clear q10
        try clear hx10
        try clear c11
        try clear c11b0
        try clear c11b1
        try clear c12
        try clear c13
        try clear c13b0
        try clear c14
        try clear c16
        try clear c16b0
        try clear c17
        try clear c17b0
        try clear c18
        try clear c21
        try clear c21b0
        try clear c21b1
        try clear c22
        try clear c23
        try clear c27
        try clear c27b0
        try clear c27b1
        try clear c28
        try clear c28b0
        try clear c28b1
        try clear hcz15_0 hcz15_1 hcz15_2 hfz15_0 hfz15_1 hfz15_2
        try clear hcz19_0 hcz19_1 hcz19_2 hfz19_0 hfz19_1 hfz19_2
        try clear hcz24_0 hcz24_1 hfz24_0 hfz24_1
        try clear hcz25_0 hcz25_1 hcz25_2 hfz25_0 hfz25_1 hfz25_2
        try clear hcz8_0 hcz8_1 hfz8_0 hfz8_1
        try clear hcz9_0 hcz9_1 hcz9_2 hfz9_0 hfz9_1 hfz9_2
        try clear hx103_0
        try clear p1
        try clear p10
        try clear p103
        try clear p2
        try clear p6
        try clear q1
        try clear q10
        try clear q103
        obtain ⟨kq, x20_25, rfl, HA, HJ25, BK101, BK102, HB⟩ := hcut
        cases kq with
        | zero => exact absurd HA.out (by simp [reloc_Value.j2])
        | succ kj25 =>
         have H := HA.out
         clear HA
         simp only [reloc_Value.j2] at H
         by_cases c29 : x20_25 = true
         ·subst c29
          have H1 : (some ((a1_0 + ((a0_2) % 4294967296)) % 4294967296, 0)) = some (r1, r2) := by rw [if_pos rfl] at H; exact H
          clear H
          have H := H1
          clear H1
          simp only [Option.some.injEq, Prod.mk.injEq] at H
          obtain ⟨rfl, rfl⟩ := H
          have hnb30 := NB101_102.out
          have hnc30 := NB102_101.out
          obtain ⟨hcz31_0, hcz31_1, hcz31_2, hfz31_0, hfz31_1, hfz31_2⟩ := cq3 BK101.out
          go_wp2
          go_ret2
          exact ⟨te, tg2 HB.out GE101.out GE102.out⟩
         ·replace c29 := Bool.eq_false_iff.mpr c29
          subst c29
          have H1 : (some (0, 2)) = some (r1, r2) := by rw [if_neg (show ¬ (false = true) by decide)] at H; exact H
          clear H
          have H := H1
          clear H1
          simp only [Option.some.injEq, Prod.mk.injEq] at H
          obtain ⟨rfl, rfl⟩ := H
          go_wp2
          go_ret2
          exact ⟨te, tg2 HB.out GE101.out GE102.out⟩

end Go.Proofs.YtiphindialkmnaaDoor.X
end
section
namespace Go.Proofs.YtiphindialkmnaaDoor.X
open Go.RowKit Go.Proofs.YtiphindialkmnaaDoorW.PrintWords Go.Proofs.YtiphindialkmnaaDoorW.PrintLast Go.Proofs.YtiphindialkmnaaDoorW.PrintMore
attribute [local go_sem] max2_int min2_int max_two min_two max_three min_three max_four min_four
set_option linter.unusedVariables false
set_option linter.unusedSimpArgs false

attribute [local go_sem high] eqA47
/-! ### reloc_blank: function 119 -/
def reloc_blank.f (k : Nat) (a0 : Int) (a1 : Int) : Option (Int × Int × Int × Int × Int × Int × Int) := (isa_Decode.f k a0).bind fun bt102 => (if a1 = 0 then (if bt102.2.2.2.2.2 = 0 then (if (!(bt102.1 == 17) || (!(bt102.2.1 == 0) || (!(bt102.2.2.1 == 0) || (!(bt102.2.2.2.1 == 0))))) = true then (some (0, 0, 0, 0, 0, 0, 10)) else (some (bt102.1, bt102.2.1, bt102.2.2.1, bt102.2.2.2.1, 0, bt102.2.2.2.2.1, 0))) else (some (0, 0, 0, 0, 0, 0, 10))) else (if bt102.2.2.2.2.2 = 0 then (if a1 = 7 then (if (!(bt102.1 == 17) || (!(bt102.2.1 == 0) || (!(bt102.2.2.1 == 0) || (!(bt102.2.2.2.1 == 0))))) = true then (some (0, 0, 0, 0, 0, 0, 10)) else (some (bt102.1, bt102.2.1, bt102.2.2.1, bt102.2.2.2.1, 0, bt102.2.2.2.2.1, 0))) else (if bt102.1 = 2 then (some (bt102.1, bt102.2.1, bt102.2.2.1, bt102.2.2.2.1, 0, bt102.2.2.2.2.1, 0)) else (some (0, 0, 0, 0, 0, 0, 10)))) else (some (0, 0, 0, 0, 0, 0, 10))))
theorem reloc_blank.mono : ∀ a0 a1 k, LeO (reloc_blank.f k a0 a1) (reloc_blank.f (k + 1) a0 a1) := by
 intro a0 a1 k
 unfold reloc_blank.f
 repeat' first
   | (with_reducible exact isa_Decode.mono _ _)
   | (with_reducible exact LeO.refl _)
   | (with_reducible exact LeO.none _)
   | (with_reducible refine LeO.ite ?_ ?_)
   | (with_reducible refine LeO.bind ?_ (fun _ => ?_))
theorem set5 {w : World} {g : Nat} {t : TypeId} {a0 a1 a2 a3 a4 b0 b1 b2 b3 b4 : Value} (h : w.heap[g]? = some (.cells #[a0, a1, a2, a3, a4] t (0, 0))) :
    (((((w.setCell ⟨g, 0, none⟩ b0).setCell ⟨g, 1, none⟩ b1).setCell ⟨g, 2, none⟩ b2).setCell ⟨g, 3, none⟩ b3).setCell ⟨g, 4, none⟩ b4).heap[g]? = some (.cells #[b0, b1, b2, b3, b4] t (0, 0)) :=
  blk_put (cs := #[b0, b1, b2, b3, a4]) (blk_put (cs := #[b0, b1, b2, a3, a4]) (blk_put (cs := #[b0, b1, a2, a3, a4]) (blk_put (cs := #[b0, a1, a2, a3, a4]) (blk_put h 0 _ rfl) 1 _ rfl) 2 _ rfl) 3 _ rfl) 4 _ rfl
theorem far5 {w W : World} {g : Nat} {b0 b1 b2 b3 b4 : Value} (h : Below w.heap.size w W) (hg : w.heap.size ≤ g) :
    Below w.heap.size w (((((W.setCell ⟨g, 0, none⟩ b0).setCell ⟨g, 1, none⟩ b1).setCell ⟨g, 2, none⟩ b2).setCell ⟨g, 3, none⟩ b3).setCell ⟨g, 4, none⟩ b4) :=
  below_set (below_set (below_set (below_set (below_set h hg) hg) hg) hg) hg
set_option maxHeartbeats 2000000 in
set_option maxRecDepth 100000 in
theorem reloc_blank.calls (k : Nat) (a0 : Int) (a1 : Int) (r1 : Int) (r2 : Int) (r3 : Int) (r4 : Int) (r5 : Int) (r6 : Int) (r7 : Int) (w : World) (h : reloc_blank.f k a0 a1 = some (r1, r2, r3, r4, r5, r6, r7)) :
    Calls Tryd.prog 119 #[.int .u32 a0, .int .u8 a1] w fun e w' => e = .returned (.tuple #[.agg #[.int .u8 r1, .int .u8 r2, .int .u8 r3, .int .u8 r4, .int .i32 r5], .int .i32 r6, .int .i64 r7]) ∧ Below w.heap.size w w' := by
  unfold reloc_blank.f at h
  obtain ⟨⟨y1, y2, y3, y4, y5, y6⟩, hd, h⟩ := Option.bind_eq_some_iff.1 h
  simp only at h
  have HD := Aside0.mk hd
  have H := Aside0.mk h
  have HB0 := Aside0.mk (below_alloc (Below.refl w.heap.size w) (.cells #[.int .u8 0, .int .u8 0, .int .u8 0, .int .u8 0, .int .i32 0] 47))
  have HK0 := Aside0.mk (heap_alloc_new w (.cells #[.int .u8 0, .int .u8 0, .int .u8 0, .int .u8 0, .int .i32 0] 47))
  clear hd h
  go_enter Tryd.func119, Tryd.ntmps119
  go_wp2_with fail
  refine (isa_Decode.calls k _ y1 y2 y3 y4 y5 y6 _ HD.out).mono ?_
  rintro e w1 ⟨rfl, hb1⟩
  have HB1 := Aside0.mk (below_step HB0.out hb1)
  have HK1 := Aside0.mk (blk_below HK0.out hb1)
  have hlt1 : w.heap.size < w1.heap.size := blk_lt HK1.out
  clear hb1 HB0 HK0 HD
  obtain ⟨hz0, hz1, hz2, hz3, hz4, hf0, hf1, hf2, hf3, hf4⟩ := cq5 HK1.out
  have H := H.out
  by_cases c6 : y6 = 0
  case neg =>
    have c61 : (y6 == 0) = false := beq_eq_false_iff_ne.2 c6
    have c62 : (y6 != 0) = true := bne_iff_ne.mpr c6
    simp only [if_neg c6] at H
    have H : some (0, 0, 0, 0, 0, 0, 10) = some (r1, r2, r3, r4, r5, r6, r7) := by split at H <;> exact H
    simp only [Option.some.injEq, Prod.mk.injEq] at H
    obtain ⟨rfl, rfl, rfl, rfl, rfl, rfl, rfl⟩ := H
    by_cases k0 : a1 = 0
    · subst k0
      go_wp2
      refine bodyPost_ret (results_ctt rfl _ _ w.heap.size 47 #[.int .u8 0, .int .u8 0, .int .u8 0, .int .u8 0, .int .i32 0] (0, 0) _ rfl (blk_alloc (set5 HK1.out) _) Tryd.underlying47 rfl (by kernel_rfl)) rfl ?_
      exact ⟨rfl, below_alloc (far5 HB1.out (Nat.le_refl _)) _⟩
    · have k01 : (a1 == 0) = false := beq_eq_false_iff_ne.2 k0
      by_cases k7 : a1 = 7
      · subst k7
        go_wp2
        refine bodyPost_ret (results_ctt rfl _ _ w.heap.size 47 #[.int .u8 0, .int .u8 0, .int .u8 0, .int .u8 0, .int .i32 0] (0, 0) _ rfl (blk_alloc (set5 HK1.out) _) Tryd.underlying47 rfl (by kernel_rfl)) rfl ?_
        exact ⟨rfl, below_alloc (far5 HB1.out (Nat.le_refl _)) _⟩
      · have k71 : (a1 == 7) = false := beq_eq_false_iff_ne.2 k7
        go_wp2
        refine bodyPost_ret (results_ctt rfl _ _ w.heap.size 47 #[.int .u8 0, .int .u8 0, .int .u8 0, .int .u8 0, .int .i32 0] (0, 0) _ rfl (blk_alloc (set5 HK1.out) _) Tryd.underlying47 rfl (by kernel_rfl)) rfl ?_
        exact ⟨rfl, below_alloc (far5 HB1.out (Nat.le_refl _)) _⟩
  subst c6
  have HC : ∀ b, (!(y1 == 17) || (!(y2 == 0) || (!(y3 == 0) || !(y4 == 0)))) = b → (!(y1 == 17) || (!(y2 == 0) || (!(y3 == 0) || (!(y4 == 0))))) = b := fun _ h => h
  by_cases k0 : a1 = 0
  · subst k0
    simp only [if_true] at H
    by_cases cc : (!(y1 == 17) || (!(y2 == 0) || (!(y3 == 0) || (!(y4 == 0))))) = true
    · rw [if_pos cc] at H
      simp only [Option.some.injEq, Prod.mk.injEq] at H
      obtain ⟨rfl, rfl, rfl, rfl, rfl, rfl, rfl⟩ := H
      go_wp2
      refine bodyPost_ret (results_ctt rfl _ _ w.heap.size 47 #[.int .u8 0, .int .u8 0, .int .u8 0, .int .u8 0, .int .i32 0] (0, 0) _ rfl (blk_alloc (set5 HK1.out) _) Tryd.underlying47 rfl (by kernel_rfl)) rfl ?_
      exact ⟨rfl, below_alloc (far5 HB1.out (Nat.le_refl _)) _⟩
    · rw [if_neg cc] at H
      have cc' : (!(y1 == 17) || (!(y2 == 0) || (!(y3 == 0) || (!(y4 == 0))))) = false := by simpa using cc
      clear cc
      simp only [Option.some.injEq, Prod.mk.injEq] at H
      obtain ⟨rfl, rfl, rfl, rfl, rfl, rfl, rfl⟩ := H
      go_wp2
      refine bodyPost_ret (results_ctt rfl _ _ w.heap.size 47 #[.int .u8 y1, .int .u8 y2, .int .u8 y3, .int .u8 y4, .int .i32 0] (0, 0) _ rfl (blk_alloc (set5 HK1.out) _) Tryd.underlying47 rfl (by kernel_rfl)) rfl ?_
      exact ⟨rfl, below_alloc (far5 HB1.out (Nat.le_refl _)) _⟩
  have k01 : (a1 == 0) = false := beq_eq_false_iff_ne.2 k0
  simp only [if_neg k0, if_true] at H
  by_cases k7 : a1 = 7
  · subst k7
    simp only [if_true] at H
    by_cases cc : (!(y1 == 17) || (!(y2 == 0) || (!(y3 == 0) || (!(y4 == 0))))) = true
    · rw [if_pos cc] at H
      simp only [Option.some.injEq, Prod.mk.injEq] at H
      obtain ⟨rfl, rfl, rfl, rfl, rfl, rfl, rfl⟩ := H
      go_wp2
      refine bodyPost_ret (results_ctt rfl _ _ w.heap.size 47 #[.int .u8 0, .int .u8 0, .int .u8 0, .int .u8 0, .int .i32 0] (0, 0) _ rfl (blk_alloc (set5 HK1.out) _) Tryd.underlying47 rfl (by kernel_rfl)) rfl ?_
      exact ⟨rfl, below_alloc (far5 HB1.out (Nat.le_refl _)) _⟩
    · rw [if_neg cc] at H
      have cc' : (!(y1 == 17) || (!(y2 == 0) || (!(y3 == 0) || (!(y4 == 0))))) = false := by simpa using cc
      clear cc
      simp only [Option.some.injEq, Prod.mk.injEq] at H
      obtain ⟨rfl, rfl, rfl, rfl, rfl, rfl, rfl⟩ := H
      go_wp2
      refine bodyPost_ret (results_ctt rfl _ _ w.heap.size 47 #[.int .u8 y1, .int .u8 y2, .int .u8 y3, .int .u8 y4, .int .i32 0] (0, 0) _ rfl (blk_alloc (set5 HK1.out) _) Tryd.underlying47 rfl (by kernel_rfl)) rfl ?_
      exact ⟨rfl, below_alloc (far5 HB1.out (Nat.le_refl _)) _⟩
  have k71 : (a1 == 7) = false := beq_eq_false_iff_ne.2 k7
  simp only [if_neg k7] at H
  by_cases c2 : y1 = 2
  · subst c2
    simp only [if_true] at H
    simp only [Option.some.injEq, Prod.mk.injEq] at H
    obtain ⟨rfl, rfl, rfl, rfl, rfl, rfl, rfl⟩ := H
    go_wp2
    refine bodyPost_ret (results_ctt rfl _ _ w.heap.size 47 #[.int .u8 2, .int .u8 y2, .int .u8 y3, .int .u8 y4, .int .i32 0] (0, 0) _ rfl (blk_alloc (set5 HK1.out) _) Tryd.underlying47 rfl (by kernel_rfl)) rfl ?_
    exact ⟨rfl, below_alloc (far5 HB1.out (Nat.le_refl _)) _⟩
  · have c21 : (y1 == 2) = false := beq_eq_false_iff_ne.2 c2
    have c22 : (y1 != 2) = true := bne_iff_ne.mpr c2
    simp only [if_neg c2] at H
    simp only [Option.some.injEq, Prod.mk.injEq] at H
    obtain ⟨rfl, rfl, rfl, rfl, rfl, rfl, rfl⟩ := H
    go_wp2
    refine bodyPost_ret (results_ctt rfl _ _ w.heap.size 47 #[.int .u8 0, .int .u8 0, .int .u8 0, .int .u8 0, .int .i32 0] (0, 0) _ rfl (blk_alloc (set5 HK1.out) _) Tryd.underlying47 rfl (by kernel_rfl)) rfl ?_
    exact ⟨rfl, below_alloc (far5 HB1.out (Nat.le_refl _)) _⟩
end Go.Proofs.YtiphindialkmnaaDoor.X
end
section
namespace Go.Proofs.YtiphindialkmnaaDoor.X
open Go.RowKit Go.Proofs.YtiphindialkmnaaDoorW.PrintWords Go.Proofs.YtiphindialkmnaaDoorW.PrintLast Go.Proofs.YtiphindialkmnaaDoorW.PrintMore
attribute [local go_sem] max2_int min2_int max_two min_two max_three min_three max_four min_four
set_option linter.unusedVariables false
set_option linter.unusedSimpArgs false

/-! ### reloc_Apply: function 102 -/
def reloc_Apply.j0 : Nat → Int → Bool → Int → Int → Int → Int → Int → Option (Int × Int)
 | 0, _, _, _, _, _, _, _ => none
 | k + 1, x2, x26, x109000, x109001, x109002, x109003, x109004 => if x26 = true then (some (0, 10)) else ((word_Fits.f (wrap64 (x2)) 21).bind fun t109 => (if t109 = true then ((isa_Encode.f k x109000 x109001 x109002 x109003 (wrap32 (x2))).bind fun bt110 => (some (bt110.1, bt110.2))) else (some (0, 30))))
def reloc_Apply.f (k : Nat) (a0 : Int) (a1 : Int) (a2 : Int) : Option (Int × Int) := if a1 = 4 then (some (a2, 0)) else (if a1 = 5 then (some (a2, 0)) else (if a1 = 6 then (some (a2, 0)) else (if a1 > 7 then (some (0, 2)) else ((reloc_blank.f k a0 a1).bind fun bt101 => (if bt101.2.2.2.2.2.2 = 0 then (reloc_Apply.j0 k a2 (bt101.2.2.2.2.2.1 != 0) bt101.1 bt101.2.1 bt101.2.2.1 bt101.2.2.2.1 bt101.2.2.2.2.1) else (reloc_Apply.j0 k a2 true bt101.1 bt101.2.1 bt101.2.2.1 bt101.2.2.2.1 bt101.2.2.2.2.1))))))
theorem reloc_Apply.mono_l : ∀ k, (∀ y0 y1 y2 y3 y4 y5 y6, LeO (reloc_Apply.j0 k y0 y1 y2 y3 y4 y5 y6) (reloc_Apply.j0 (k + 1) y0 y1 y2 y3 y4 y5 y6))
 | 0 => fun _ _ _ _ _ _ _ r h => by simp [reloc_Apply.j0] at h
 | k + 1 => by
  have ih0 := reloc_Apply.mono_l k
  ·intro y0 y1 y2 y3 y4 y5 y6
   unfold reloc_Apply.j0
   repeat' first
   | (with_reducible exact ih0 _ _ _ _ _ _ _)
   | (with_reducible exact isa_Encode.mono _ _ _ _ _ _)
   | (with_reducible exact reloc_blank.mono _ _ _)
   | (with_reducible exact LeO.refl _)
   | (with_reducible exact LeO.none _)
   | (with_reducible refine LeO.ite ?_ ?_)
   | (with_reducible refine LeO.bind ?_ (fun _ => ?_))
theorem reloc_Apply.mono : ∀ a0 a1 a2 k, LeO (reloc_Apply.f k a0 a1 a2) (reloc_Apply.f (k + 1) a0 a1 a2) := by
 intro a0 a1 a2 k
 have ih0 := reloc_Apply.mono_l k
 unfold reloc_Apply.f
 repeat' first
   | (with_reducible exact ih0 _ _ _ _ _ _ _)
   | (with_reducible exact isa_Encode.mono _ _ _ _ _ _)
   | (with_reducible exact reloc_blank.mono _ _ _)
   | (with_reducible exact LeO.refl _)
   | (with_reducible exact LeO.none _)
   | (with_reducible refine LeO.ite ?_ ?_)
   | (with_reducible refine LeO.bind ?_ (fun _ => ?_))
set_option maxHeartbeats 8000000 in
set_option maxRecDepth 100000 in
theorem reloc_Apply.calls (k : Nat) (a0 : Int) (a1 : Int) (a2 : Int) (r1 : Int) (r2 : Int) (w : World) (h : reloc_Apply.f k a0 a1 a2 = some (r1, r2)) :
  Calls Tryd.prog 102 #[.int .u32 a0, .int .u8 a1, .int .u32 a2] w fun e w' => e = .returned (.tuple #[.int .u32 r1, .int .i64 r2]) ∧ Below w.heap.size w w' := by
 have hu47 := Tryd.underlying47
 have HB := Aside0.mk (Below.refl w.heap.size w)
 have H : (if a1 = 4 then (some (a2, 0)) else (if a1 = 5 then (some (a2, 0)) else (if a1 = 6 then (some (a2, 0)) else (if a1 > 7 then (some (0, 2)) else ((reloc_blank.f k a0 a1).bind fun bt101 => (if bt101.2.2.2.2.2.2 = 0 then (reloc_Apply.j0 k a2 (bt101.2.2.2.2.2.1 != 0) bt101.1 bt101.2.1 bt101.2.2.1 bt101.2.2.2.1 bt101.2.2.2.2.1) else (reloc_Apply.j0 k a2 true bt101.1 bt101.2.1 bt101.2.2.1 bt101.2.2.2.1 bt101.2.2.2.2.1))))))) = some (r1, r2) := h
 clear h
 by_cases c4 : a1 = 4
 ·rw [if_pos c4] at H
  have c4b0 : (a1 == 4) = true := beq_iff_eq.mpr c4
  have c4b1 : (a1 != 4) = false := bne_eq_false_iff_eq.mpr c4
  clear c4
  simp only [Option.some.injEq, Prod.mk.injEq] at H
  obtain ⟨rfl, rfl⟩ := H
  go_enter Tryd.func102, Tryd.ntmps102
  go_wp2
  go_ret2
  exact ⟨te, tg HB.out⟩
 ·rw [if_neg c4] at H
  have c4b0 : (a1 == 4) = false := beq_eq_false_iff_ne.mpr c4
  have c4b1 : (a1 != 4) = true := bne_iff_ne.mpr c4
  by_cases c5 : a1 = 5
  ·rw [if_pos c5] at H
   have c5b0 : (a1 == 5) = true := beq_iff_eq.mpr c5
   have c5b1 : (a1 != 5) = false := bne_eq_false_iff_eq.mpr c5
   clear c5
   simp only [Option.some.injEq, Prod.mk.injEq] at H
   obtain ⟨rfl, rfl⟩ := H
   go_enter Tryd.func102, Tryd.ntmps102
   go_wp2
   go_ret2
   exact ⟨te, tg HB.out⟩
  ·rw [if_neg c5] at H
   have c5b0 : (a1 == 5) = false := beq_eq_false_iff_ne.mpr c5
   have c5b1 : (a1 != 5) = true := bne_iff_ne.mpr c5
   by_cases c6 : a1 = 6
   ·rw [if_pos c6] at H
    have c6b0 : (a1 == 6) = true := beq_iff_eq.mpr c6
    have c6b1 : (a1 != 6) = false := bne_eq_false_iff_eq.mpr c6
    clear c6
    simp only [Option.some.injEq, Prod.mk.injEq] at H
    obtain ⟨rfl, rfl⟩ := H
    go_enter Tryd.func102, Tryd.ntmps102
    go_wp2
    go_ret2
    exact ⟨te, tg HB.out⟩
   ·rw [if_neg c6] at H
    have c6b0 : (a1 == 6) = false := beq_eq_false_iff_ne.mpr c6
    have c6b1 : (a1 != 6) = true := bne_iff_ne.mpr c6
    by_cases c7 : a1 > 7
    ·rw [if_pos c7] at H
     have c7b0 : decide (7 < a1) = true := decide_eq_true c7
     clear c7
     simp only [Option.some.injEq, Prod.mk.injEq] at H
     obtain ⟨rfl, rfl⟩ := H
     go_enter Tryd.func102, Tryd.ntmps102
     go_wp2
     go_ret2
     exact ⟨te, tg HB.out⟩
    ·rw [if_neg c7] at H
     have c7b0 : decide (7 < a1) = false := decide_eq_false c7
     clear c7
     replace H := Option.bind_eq_some_iff.mp H
     obtain ⟨⟨t101, t102, t103, t104, t105, t106, t107⟩, A80, H⟩ := H
     replace H : (if t107 = 0 then (reloc_Apply.j0 k a2 (t106 != 0) t101 t102 t103 t104 t105) else (reloc_Apply.j0 k a2 true t101 t102 t103 t104 t105)) = some (r1, r2) := H
     have A8 := Aside0.mk A80
     clear A80
     have HC9 := Aside0.mk H
     clear H
     go_enter Tryd.func102, Tryd.ntmps102
     go_upto_region 9 with (first | ((with_reducible refine gate_callee (f := 119) rfl ?_); refine goesL_ (some 22) rfl rfl Tryd.func119 (by kernel_rfl) rfl #[.int .u32 a0, .int .u8 a1] rfl tm ?_; (with_reducible refine (reloc_blank.calls k a0 a1 t101 t102 t103 t104 t105 t106 t107 _ A8.out).mono ?_); rintro e w10 ⟨rfl, hb⟩; refine ⟨_, rfl, ?_⟩; replace HB := Aside0.mk (below_step (tg HB.out) hb); (try clear hb)) | ((with_reducible refine gate_dst (N := 8) rfl ?_); refine box_event ?hg (N := 8) ?hd (cs := #[.int .u8 0, .int .u8 0, .int .u8 0, .int .u8 0, .int .i32 0]) (t := 47) ?hr ?_; (case hd => rfl); (case hg => rfl); (case hr => first | (go_simp; done) | (go_simp; rfl)); intro gb108 hg w11 hbox hb; have n0_ := Aside0.mk (below_step (tg HB.out) hb); have n1_ := Aside0.mk (hbox); have n2_ := Aside0.mk ((by rw [hg]; exact (below_size (tg HB.out)) : w.heap.size ≤ gb108)); have n3_ := Aside0.mk ((by rw [hg]; exact (below_size (tg HB.out)) : w.heap.size ≤ gb108)); clear HB; have HB := n0_; have BK108 := n1_; have GW108 := n2_; have GE108 := n3_; clear n0_ n1_ n2_ n3_; clear hb hbox hg; obtain ⟨hcz12_0, hcz12_1, hcz12_2, hcz12_3, hcz12_4, hfz12_0, hfz12_1, hfz12_2, hfz12_3, hfz12_4⟩ := cq5 BK108.out))
     (try simp only [Act.put, List.setIfInBounds_toArray, List.set_cons_zero, List.set_cons_succ])
     go_cut [26] (fun v26 wc => ∃ (kq : Nat) (x26_8 : Bool), v26 = .bool x26_8 ∧ Aside0 (reloc_Apply.j0 kq a2 x26_8 t101 t102 t103 t104 t105 = some (r1, r2)) ∧ Aside0 (kq ≤ k) ∧ Aside0 (wc.heap[gb108]? = some (.cells #[.int .u8 t101, .int .u8 t102, .int .u8 t103, .int .u8 t104, .int .i32 t105] 47 (0, 0))) ∧ Aside0 (Below w.heap.size w wc))
     case first =>
      have H := HC9.out
      clear HC9
      by_cases c13 : t107 = 0
      ·rw [if_pos c13] at H
       have c13b0 : (t107 == 0) = true := beq_iff_eq.mpr c13
       have c13b1 : (t107 != 0) = false := bne_eq_false_iff_eq.mpr c13
       clear c13
       (first | rw [c13b0] | (simp only [i64_w, i32_w]; rw [c13b0]) | skip)
       have H' := Aside0.mk H
       clear H
       go_wp2
       go_meet
       case rel => exact ⟨_, ((t106 != 0)), ts, H', ⟨tn⟩, ⟨by (with_reducible repeat (first | refine blk_drewN ?_ _ | refine blk_drew ?_ | refine blk_alloc ?_ _)); refine blk_put (cs := #[.int .u8 t101, .int .u8 t102, .int .u8 t103, .int .u8 t104, .int .i32 0]) ?_ 4 _ rfl; (with_reducible repeat (first | refine blk_drewN ?_ _ | refine blk_drew ?_ | refine blk_alloc ?_ _)); refine blk_put (cs := #[.int .u8 t101, .int .u8 t102, .int .u8 t103, .int .u8 0, .int .i32 0]) ?_ 3 _ rfl; (with_reducible repeat (first | refine blk_drewN ?_ _ | refine blk_drew ?_ | refine blk_alloc ?_ _)); refine blk_put (cs := #[.int .u8 t101, .int .u8 t102, .int .u8 0, .int .u8 0, .int .i32 0]) ?_ 2 _ rfl; (with_reducible repeat (first | refine blk_drewN ?_ _ | refine blk_drew ?_ | refine blk_alloc ?_ _)); refine blk_put (cs := #[.int .u8 t101, .int .u8 0, .int .u8 0, .int .u8 0, .int .i32 0]) ?_ 1 _ rfl; (with_reducible repeat (first | refine blk_drewN ?_ _ | refine blk_drew ?_ | refine blk_alloc ?_ _)); refine blk_put (cs := #[.int .u8 0, .int .u8 0, .int .u8 0, .int .u8 0, .int .i32 0]) ?_ 0 _ rfl; (with_reducible repeat (first | refine blk_drewN ?_ _ | refine blk_drew ?_ | refine blk_alloc ?_ _)); exact BK108.out⟩, ⟨tg1 HB.out GE108.out⟩⟩
      ·rw [if_neg c13] at H
       have c13b0 : (t107 == 0) = false := beq_eq_false_iff_ne.mpr c13
       have c13b1 : (t107 != 0) = true := bne_iff_ne.mpr c13
       (first | rw [c13b0] | (simp only [i64_w, i32_w]; rw [c13b0]) | skip)
       have H' := Aside0.mk H
       clear H
       go_wp2
       go_meet
       case rel => exact ⟨_, (true), ts, H', ⟨tn⟩, ⟨by (with_reducible repeat (first | refine blk_drewN ?_ _ | refine blk_drew ?_ | refine blk_alloc ?_ _)); refine blk_put (cs := #[.int .u8 t101, .int .u8 t102, .int .u8 t103, .int .u8 t104, .int .i32 0]) ?_ 4 _ rfl; (with_reducible repeat (first | refine blk_drewN ?_ _ | refine blk_drew ?_ | refine blk_alloc ?_ _)); refine blk_put (cs := #[.int .u8 t101, .int .u8 t102, .int .u8 t103, .int .u8 0, .int .i32 0]) ?_ 3 _ rfl; (with_reducible repeat (first | refine blk_drewN ?_ _ | refine blk_drew ?_ | refine blk_alloc ?_ _)); refine blk_put (cs := #[.int .u8 t101, .int .u8 t102, .int .u8 0, .int .u8 0, .int .i32 0]) ?_ 2 _ rfl; (with_reducible repeat (first | refine blk_drewN ?_ _ | refine blk_drew ?_ | refine blk_alloc ?_ _)); refine blk_put (cs := #[.int .u8 t101, .int .u8 0, .int .u8 0, .int .u8 0, .int .i32 0]) ?_ 1 _ rfl; (with_reducible repeat (first | refine blk_drewN ?_ _ | refine blk_drew ?_ | refine blk_alloc ?_ _)); refine blk_put (cs := #[.int .u8 0, .int .u8 0, .int .u8 0, .int .u8 0, .int .i32 0]) ?_ 0 _ rfl; (with_reducible repeat (first | refine blk_drewN ?_ _ | refine blk_drew ?_ | refine blk_alloc ?_ _)); exact BK108.out⟩, ⟨tg1 HB.out GE108.out⟩⟩
     case rest =>
      clear HC9
      try clear c1
      try clear p2
      try clear c4
      try clear c4b0
      try clear c4b1
      try clear c5
      try clear c5b0
      try clear c5b1
      try clear c6
      try clear c6b0
      try clear c6b1
      try clear c7
      try clear c7b0
      try clear c10
      try clear c11
      try clear c13
      try clear c13b0
      try clear c13b1
      try clear hcz12_0 hcz12_1 hcz12_2 hcz12_3 hcz12_4 hfz12_0 hfz12_1 hfz12_2 hfz12_3 hfz12_4
      obtain ⟨kq, x26_8, rfl, HA, HJ8, BK108, HB⟩ := hcut
      cases kq with
      | zero => exact absurd HA.out (by simp [reloc_Apply.j0])
      | succ kj8 =>
       have H := HA.out
       clear HA
       simp only [reloc_Apply.j0] at H
       by_cases c14 : x26_8 = true
       ·subst c14
        have H1 : (some (0, 10)) = some (r1, r2) := by rw [if_pos rfl] at H; exact H
        clear H
        have H := H1
        clear H1
        simp only [Option.some.injEq, Prod.mk.injEq] at H
        obtain ⟨rfl, rfl⟩ := H
        go_wp2
        go_ret2
        exact ⟨te, tg1 HB.out GE108.out⟩
       ·replace c14 := Bool.eq_false_iff.mpr c14
        subst c14
        have H1 : ((word_Fits.f (wrap64 (a2)) 21).bind fun t109 => (if t109 = true then ((isa_Encode.f kj8 t101 t102 t103 t104 (wrap32 (a2))).bind fun bt110 => (some (bt110.1, bt110.2))) else (some (0, 30)))) = some (r1, r2) := by rw [if_neg (show ¬ (false = true) by decide)] at H; exact H
        clear H
        have H := H1
        clear H1
        replace H := Option.bind_eq_some_iff.mp H
        obtain ⟨t109, A150, H⟩ := H
        replace H : (if t109 = true then ((isa_Encode.f kj8 t101 t102 t103 t104 (wrap32 (a2))).bind fun bt110 => (some (bt110.1, bt110.2))) else (some (0, 30))) = some (r1, r2) := H
        have A15 := Aside0.mk A150
        clear A150
        by_cases c16 : t109 = true
        ·subst c16
         have H1 : ((isa_Encode.f kj8 t101 t102 t103 t104 (wrap32 (a2))).bind fun bt110 => (some (bt110.1, bt110.2))) = some (r1, r2) := by rw [if_pos rfl] at H; exact H
         clear H
         have H := H1
         clear H1
         replace H := Option.bind_eq_some_iff.mp H
         obtain ⟨⟨t110, t111⟩, A170, H⟩ := H
         replace H : (some (t110, t111)) = some (r1, r2) := H
         have A17 := Aside0.mk A170
         clear A170
         simp only [Option.some.injEq, Prod.mk.injEq] at H
         obtain ⟨rfl, rfl⟩ := H
         go_wp2_with (first | ((with_reducible refine gate_callee (f := 110) rfl ?_); refine goesL_ (some 36) rfl rfl Tryd.func110 (by kernel_rfl) rfl #[.int .i64 (wrap64 (a2)), .int .i64 21] rfl tm ?_; (with_reducible refine (word_Fits.calls (wrap64 (a2)) 21 true _ A15.out).mono ?_); rintro e w' ⟨rfl, ⟨nd, rfl⟩⟩; refine ⟨_, rfl, ?_⟩; (try (rw [drewN_self wc]; generalize hq_ : World.drewN wc _ = wc; have n0_ : Aside0 (wc.heap[gb108]? = some (.cells #[.int .u8 t101, .int .u8 t102, .int .u8 t103, .int .u8 t104, .int .i32 t105] 47 (0, 0))) := ⟨by rw [← hq_]; exact (tb BK108.out)⟩; have n1_ : Aside0 (Below w.heap.size w wc) := ⟨by rw [← hq_]; exact (tg1 HB.out GE108.out)⟩; clear BK108 HB hq_; have BK108 := n0_; have HB := n1_; clear n0_ n1_)); obtain ⟨hcz18_0, hcz18_1, hcz18_2, hcz18_3, hcz18_4, hfz18_0, hfz18_1, hfz18_2, hfz18_3, hfz18_4⟩ := cq5 BK108.out) | ((with_reducible refine gate_callee (f := 53) rfl ?_); refine goesL_ (some 42) rfl rfl Tryd.func53 (by kernel_rfl) rfl #[.agg #[.int .u8 t101, .int .u8 t102, .int .u8 t103, .int .u8 t104, .int .i32 (wrap32 (a2))]] rfl tm ?_; (with_reducible refine (isa_Encode.calls kj8 t101 t102 t103 t104 (wrap32 (a2)) t110 t111 _ A17.out).mono ?_); rintro e w19 ⟨rfl, hb⟩; refine ⟨_, rfl, ?_⟩; replace BK108 := Aside0.mk (blk_below (g := gb108) (o := .cells #[.int .u8 t101, .int .u8 t102, .int .u8 t103, .int .u8 t104, .int .i32 (wrap32 (a2))] 47 (0, 0)) (by (with_reducible repeat (first | refine blk_drewN ?_ _ | refine blk_drew ?_ | refine blk_alloc ?_ _)); refine blk_put (cs := #[.int .u8 t101, .int .u8 t102, .int .u8 t103, .int .u8 t104, .int .i32 t105]) ?_ 4 _ rfl; (with_reducible repeat (first | refine blk_drewN ?_ _ | refine blk_drew ?_ | refine blk_alloc ?_ _)); exact BK108.out) hb); replace HB := Aside0.mk (below_step (tg1 HB.out GE108.out) hb); (try clear hb)))
         go_ret2
         exact ⟨te, tg1 HB.out GE108.out⟩
        ·replace c16 := Bool.eq_false_iff.mpr c16
         subst c16
         have H1 : (some (0, 30)) = some (r1, r2) := by rw [if_neg (show ¬ (false = true) by decide)] at H; exact H
         clear H
         have H := H1
         clear H1
         simp only [Option.some.injEq, Prod.mk.injEq] at H
         obtain ⟨rfl, rfl⟩ := H
         go_wp2_with (first | ((with_reducible refine gate_callee (f := 110) rfl ?_); refine goesL_ (some 36) rfl rfl Tryd.func110 (by kernel_rfl) rfl #[.int .i64 (wrap64 (a2)), .int .i64 21] rfl tm ?_; (with_reducible refine (word_Fits.calls (wrap64 (a2)) 21 false _ A15.out).mono ?_); rintro e w' ⟨rfl, ⟨nd, rfl⟩⟩; refine ⟨_, rfl, ?_⟩))
         go_ret2
         exact ⟨te, tg1 HB.out GE108.out⟩

end Go.Proofs.YtiphindialkmnaaDoor.X
end
section
namespace Go.Proofs.YtiphindialkmnaaDoor.X
open Go.RowKit Go.Proofs.YtiphindialkmnaaDoorW.PrintWords Go.Proofs.YtiphindialkmnaaDoorW.PrintLast Go.Proofs.YtiphindialkmnaaDoorW.PrintMore
attribute [local go_sem] max2_int min2_int max_two min_two max_three min_three max_four min_four
set_option linter.unusedVariables false
set_option linter.unusedSimpArgs false

/-! ### layout_Of: function 32 -/
def layout_Of.f (a0_0 : ByteArray) (l0_1 : List ByteArray) (l0_2 : List ByteArray) (l0_3 : List Int) (l0_4 : List Int) (l0_5 : List (S43)) : Option (Int × Int) := (layout_up.f (l0_3.length : Int)).bind fun t103 => ((layout_up.f (l0_4.length : Int)).bind fun t104 => (some (t103, t104)))
def layout_Of.T1 : Bool × List (List Nat × List Nat) := (true, [([], []), ([0], [0]), ([1], [1]), ([2], [2]), ([], []), ([4], [4]), ([5], [5]), ([6, 3], [6]), ([3, 7], [3, 7]), ([8, 7, 0, 1, 2, 3, 4, 5, 6, 7, 8], [8])])
def layout_Of.B1 : List Nat := [0, 1, 3, 7, 0, 16, 48, 127, 255, 511]
theorem layout_Of.tab1 : rtab .any (opsOf Tryd.f32 1) = layout_Of.T1 := by kernel_rfl
theorem layout_Of.bits1 : waitsOk layout_Of.T1.2 layout_Of.B1 = true := by kernel_rfl
set_option maxHeartbeats 8000000 in
set_option maxRecDepth 100000 in
theorem layout_Of.calls (a0_0 : ByteArray) (A0_1 : Option Addr) (c0_1 : Nat) (l0_1 : List ByteArray) (A0_2 : Option Addr) (c0_2 : Nat) (l0_2 : List ByteArray) (A0_3 : Option Addr) (c0_3 : Nat) (l0_3 : List Int) (A0_4 : Option Addr) (c0_4 : Nat) (l0_4 : List Int) (A0_5 : Option Addr) (c0_5 : Nat) (l0_5 : List (S43)) (r1 : Int) (r2 : Int) (w : World) (hr0_1 : Kd.C Kd.string w A0_1 l0_1.length l0_1) (hc0_1 : l0_1.length ≤ c0_1) (hr0_2 : Kd.C Kd.string w A0_2 l0_2.length l0_2) (hc0_2 : l0_2.length ≤ c0_2) (hr0_3 : Kd.C (Kd.int .u32) w A0_3 l0_3.length l0_3) (hc0_3 : l0_3.length ≤ c0_3) (hr0_4 : Kd.C (Kd.int .u32) w A0_4 l0_4.length l0_4) (hc0_4 : l0_4.length ≤ c0_4) (hr0_5 : Kd.C k43 w A0_5 l0_5.length l0_5) (hc0_5 : l0_5.length ≤ c0_5) (h : layout_Of.f a0_0 l0_1 l0_2 l0_3 l0_4 l0_5 = some (r1, r2)) :
  Calls Tryd.prog 32 #[.agg #[.string a0_0, .slice A0_1 l0_1.length c0_1, .slice A0_2 l0_2.length c0_2, .slice A0_3 l0_3.length c0_3, .slice A0_4 l0_4.length c0_4, .slice A0_5 l0_5.length c0_5]] w fun e w' => e = .returned (.agg #[.int .i64 r1, .int .i64 r2]) ∧ Below w.heap.size w w' := by
 have hu26 := Tryd.underlying26
 have hu77 := Tryd.underlying77
 have HR0_1 := Aside0.mk hr0_1
 have HC0_1 := Aside0.mk hc0_1
 clear hr0_1 hc0_1
 have HR0_2 := Aside0.mk hr0_2
 have HC0_2 := Aside0.mk hc0_2
 clear hr0_2 hc0_2
 have HR0_3 := Aside0.mk hr0_3
 have HC0_3 := Aside0.mk hc0_3
 clear hr0_3 hc0_3
 have HR0_4 := Aside0.mk hr0_4
 have HC0_4 := Aside0.mk hc0_4
 clear hr0_4 hc0_4
 have HR0_5 := Aside0.mk hr0_5
 have HC0_5 := Aside0.mk hc0_5
 clear hr0_5 hc0_5
 have HB := Aside0.mk (Below.refl w.heap.size w)
 have H : ((layout_up.f (l0_3.length : Int)).bind fun t103 => ((layout_up.f (l0_4.length : Int)).bind fun t104 => (some (t103, t104)))) = some (r1, r2) := h
 clear h
 replace H := Option.bind_eq_some_iff.mp H
 obtain ⟨t103, A20, H⟩ := H
 replace H : ((layout_up.f (l0_4.length : Int)).bind fun t104 => (some (t103, t104))) = some (r1, r2) := H
 have A2 := Aside0.mk A20
 clear A20
 replace H := Option.bind_eq_some_iff.mp H
 obtain ⟨t104, A30, H⟩ := H
 replace H : (some (t103, t104)) = some (r1, r2) := H
 have A3 := Aside0.mk A30
 clear A30
 simp only [Option.some.injEq, Prod.mk.injEq] at H
 obtain ⟨rfl, rfl⟩ := H
 go_enter Tryd.func32, Tryd.ntmps32
 try go_wp2_with (first | ((with_reducible refine gate_dst (N := 1) rfl ?_); refine box_event ?hg (N := 1) ?hd (cs := #[.string a0_0, .slice A0_1 l0_1.length c0_1, .slice A0_2 l0_2.length c0_2, .slice A0_3 l0_3.length c0_3, .slice A0_4 l0_4.length c0_4, .slice A0_5 l0_5.length c0_5]) (t := 26) ?hr ?_; (case hd => rfl); (case hg => rfl); (case hr => first | (go_simp; done) | (go_simp; rfl)); intro gb101 hg w4 hbox hb; have n0_ := Aside0.mk (below_step (tg HB.out) hb); have n1_ := Aside0.mk (hbox); have n2_ := Aside0.mk ((by rw [hg]; exact (below_size (tg HB.out)) : w.heap.size ≤ gb101)); have n3_ := Aside0.mk ((by rw [hg]; exact (below_size (tg HB.out)) : w.heap.size ≤ gb101)); clear HB; have HB := n0_; have BK101 := n1_; have GW101 := n2_; have GE101 := n3_; clear n0_ n1_ n2_ n3_; clear hb hbox hg) | ((with_reducible refine gate_dst (N := 2) rfl ?_); refine box_event ?hg (N := 2) ?hd (cs := #[.int .i64 0, .int .i64 0]) (t := 77) ?hr ?_; (case hd => rfl); (case hg => rfl); (case hr => first | (go_simp; done) | (go_simp; rfl)); intro gb102 hg w5 hbox hb; have n0_ := ba BK101.out hb; have n1_ := Aside0.mk (below_step (tg1 HB.out GE101.out) hb); have n2_ := Aside0.mk (hbox); have n3_ := Aside0.mk ((by rw [hg]; exact (below_size (tg1 HB.out GE101.out)) : w.heap.size ≤ gb102)); have n4_ := Aside0.mk ((by rw [hg]; exact (below_size (tg1 HB.out GE101.out)) : w.heap.size ≤ gb102)); have n5_ := Aside0.mk ((by rw [hg]; exact Nat.ne_of_lt (blk_lt (g := gb101) (o := .cells #[.string a0_0, .slice A0_1 l0_1.length c0_1, .slice A0_2 l0_2.length c0_2, .slice A0_3 l0_3.length c0_3, .slice A0_4 l0_4.length c0_4, .slice A0_5 l0_5.length c0_5] 26 (0, 0)) (tb BK101.out)) : gb101 ≠ gb102)); have n6_ := Aside0.mk ((by rw [hg]; exact Nat.ne_of_gt (blk_lt (g := gb101) (o := .cells #[.string a0_0, .slice A0_1 l0_1.length c0_1, .slice A0_2 l0_2.length c0_2, .slice A0_3 l0_3.length c0_3, .slice A0_4 l0_4.length c0_4, .slice A0_5 l0_5.length c0_5] 26 (0, 0)) (tb BK101.out)) : gb102 ≠ gb101)); clear BK101; clear HB; have BK101 := n0_; have HB := n1_; have BK102 := n2_; have GW102 := n3_; have GE102 := n4_; have NB101_102 := n5_; have NB102_101 := n6_; clear n0_ n1_ n2_ n3_ n4_ n5_ n6_; clear hb hbox hg))
 replace BK101 := Aside0.mk (blk_drew BK101.out)
 replace BK102 := Aside0.mk (blk_drew BK102.out)
 replace HB := Aside0.mk (below_drew1 HB.out)
 refine start_ (n := 10) (S := fun w' => w'.cell? ⟨gb101, 0, none⟩ = some (.string a0_0) ∧ w'.cell? ⟨gb101, 1, none⟩ = some (.slice A0_1 l0_1.length c0_1) ∧ w'.cell? ⟨gb101, 2, none⟩ = some (.slice A0_2 l0_2.length c0_2) ∧ w'.cell? ⟨gb101, 3, none⟩ = some (.slice A0_3 l0_3.length c0_3) ∧ w'.cell? ⟨gb101, 4, none⟩ = some (.slice A0_4 l0_4.length c0_4) ∧ w'.cell? ⟨gb101, 5, none⟩ = some (.slice A0_5 l0_5.length c0_5)) (ds := []) #[false, false, false, false, false, false, false, false, false, false] (by kernel_rfl) rfl rfl ⟨(blk_cell BK101.out 0).trans rfl, (blk_cell BK101.out 1).trans rfl, (blk_cell BK101.out 2).trans rfl, (blk_cell BK101.out 3).trans rfl, (blk_cell BK101.out 4).trans rfl, (blk_cell BK101.out 5).trans rfl⟩ (fun hHeld => ?_); refine with_tabW layout_Of.tab1 layout_Of.bits1 (fun HT_ HW_ => ?_)
 generalize w5.drew = w6 at BK101 BK102 HB hHeld ⊢
 refine pure_ (i := 0) (N := some 3) (v := ?_) (a' := ?_) #[true, false, false, false, false, false, false, false, false, false] rfl rfl (any_of HT_.out (by kernel_rfl)) (fun _ _ _ h => h) (Or.inl ⟨by rfl, ?_⟩) ?_ ?_
 rotate_left
 ·intro w'
  go_simp
  with_reducible rfl
 rotate_left
 ·simp only [Act.put, List.setIfInBounds_toArray, List.set_cons_zero, List.set_cons_succ, i64_w, i32_w]
  rfl
 refine pure_ (i := 4) (N := some 7) (v := ?_) (a' := ?_) #[true, false, false, false, true, false, false, false, false, false] rfl rfl (any_of HT_.out (by kernel_rfl)) (fun _ _ _ h => h) (Or.inl ⟨by rfl, ?_⟩) ?_ ?_
 rotate_left
 ·intro w'
  go_simp
  with_reducible rfl
 rotate_left
 ·simp only [Act.put, List.setIfInBounds_toArray, List.set_cons_zero, List.set_cons_succ, i64_w, i32_w]
  rfl
 refine take_ (i := 1) (N := some 4) (v := ?_) (a' := ?_) #[true, true, false, false, true, false, false, false, false, false] rfl rfl (take_ofW HT_.out HW_.out (by kernel_rfl)) (fun _ _ _ h => h) (Or.inl ⟨by rfl, ?_⟩) hHeld ?_ ?_
 rotate_left
 ·rintro w' ⟨s0, s1, s2, s3, s4, s5⟩
  go_simp
  with_reducible rfl
 rotate_left
 ·simp only [Act.put, List.setIfInBounds_toArray, List.set_cons_zero, List.set_cons_succ, i64_w, i32_w]
  rfl
 refine pure_ (i := 2) (N := some 5) (v := ?_) (a' := ?_) #[true, true, true, false, true, false, false, false, false, false] rfl rfl (any_of HT_.out (by kernel_rfl)) (fun _ _ _ h => h) (Or.inl ⟨by rfl, ?_⟩) ?_ ?_
 rotate_left
 ·intro w'
  go_simp
  with_reducible rfl
 rotate_left
 ·simp only [Act.put, List.setIfInBounds_toArray, List.set_cons_zero, List.set_cons_succ, i64_w, i32_w]
  rfl
 refine take_ (i := 5) (N := some 8) (v := ?_) (a' := ?_) #[true, true, true, false, true, true, false, false, false, false] rfl rfl (take_ofW HT_.out HW_.out (by kernel_rfl)) (fun _ _ _ h => h) (Or.inl ⟨by rfl, ?_⟩) hHeld ?_ ?_
 rotate_left
 ·rintro w' ⟨s0, s1, s2, s3, s4, s5⟩
  go_simp
  with_reducible rfl
 rotate_left
 ·simp only [Act.put, List.setIfInBounds_toArray, List.set_cons_zero, List.set_cons_succ, i64_w, i32_w]
  rfl
 refine pure_ (i := 6) (N := some 9) (v := ?_) (a' := ?_) #[true, true, true, false, true, true, true, false, false, false] rfl rfl (any_of HT_.out (by kernel_rfl)) (fun _ _ _ h => h) (Or.inl ⟨by rfl, ?_⟩) ?_ ?_
 rotate_left
 ·intro w'
  go_simp
  with_reducible rfl
 rotate_left
 ·simp only [Act.put, List.setIfInBounds_toArray, List.set_cons_zero, List.set_cons_succ, i64_w, i32_w]
  rfl
 refine one_ (i := 3) (N := some 6) #[true, true, true, true, true, true, true, false, false, false] rfl rfl (one_of HT_.out (by kernel_rfl)) (by decide) (fun K hK => ?_)
 refine goes_ Tryd.func70 (by kernel_rfl) rfl #[.int .i64 (l0_3.length : Int)] (by rfl) rfl rfl tm ?_
 with_reducible refine (layout_up.calls (l0_3.length : Int) t103 _ A2.out).mono ?_
 rintro e w' ⟨rfl, ⟨nd, rfl⟩⟩
 refine ⟨_, rfl, ?_⟩
 refine hK.out _ _ ⟨(blk_cell BK101.out 0).trans rfl, (blk_cell BK101.out 1).trans rfl, (blk_cell BK101.out 2).trans rfl, (blk_cell BK101.out 3).trans rfl, (blk_cell BK101.out 4).trans rfl, (blk_cell BK101.out 5).trans rfl⟩ (fun hHeld => ?_)
 clear hK K
 refine norm_ (a' := ?_) ?_ ?_
 rotate_left
 ·show Act.put _ (some 6) _ = _
  simp only [Act.put, List.setIfInBounds_toArray, List.set_cons_zero, List.set_cons_succ, i64_w, i32_w]
  rfl
 refine one_ (i := 7) (N := some 10) #[true, true, true, true, true, true, true, true, false, false] rfl rfl (one_of HT_.out (by kernel_rfl)) (by decide) (fun K hK => ?_)
 refine goes_ Tryd.func70 (by kernel_rfl) rfl #[.int .i64 (l0_4.length : Int)] (by rfl) rfl rfl tm ?_
 with_reducible refine (layout_up.calls (l0_4.length : Int) t104 _ A3.out).mono ?_
 rintro e w' ⟨rfl, ⟨nd, rfl⟩⟩
 refine ⟨_, rfl, ?_⟩
 refine hK.out _ _ ⟨(blk_cell BK101.out 0).trans rfl, (blk_cell BK101.out 1).trans rfl, (blk_cell BK101.out 2).trans rfl, (blk_cell BK101.out 3).trans rfl, (blk_cell BK101.out 4).trans rfl, (blk_cell BK101.out 5).trans rfl⟩ (fun hHeld => ?_)
 clear hK K
 refine norm_ (a' := ?_) ?_ ?_
 rotate_left
 ·show Act.put _ (some 10) _ = _
  simp only [Act.put, List.setIfInBounds_toArray, List.set_cons_zero, List.set_cons_succ, i64_w, i32_w]
  rfl
 refine pure_ (i := 8) (N := some 11) (v := ?_) (a' := ?_) #[true, true, true, true, true, true, true, true, true, false] rfl rfl (any_of HT_.out (by kernel_rfl)) (fun _ _ _ h => h) (Or.inl ⟨by rfl, ?_⟩) ?_ ?_
 rotate_left
 ·intro w'
  go_simp
  with_reducible rfl
 rotate_left
 ·simp only [Act.put, List.setIfInBounds_toArray, List.set_cons_zero, List.set_cons_succ, i64_w, i32_w]
  rfl
 refine one_ (i := 9) (N := none) #[true, true, true, true, true, true, true, true, true, true] rfl rfl (one_of HT_.out (by kernel_rfl)) (by decide) (fun K hK => ?_)
 have hs7 := cz BK102.out 0 (.int .i64 0)
 have hfs7 := blk_frozen BK102.out 0
 have hns7_0 := NB101_102.out
 have hms7_0 := NB102_101.out
 have hs8 := cz BK102.out 1 (.int .i64 0)
 have hfs8 := blk_frozen BK102.out 1
 have hns8_0 := NB101_102.out
 have hms8_0 := NB102_101.out
 refine skip_ (w1 := ?_) (by rfl) rfl ?_ ?_
 rotate_left
 ·go_simp
  rfl
 refine hK.out _ _ ⟨((cell_far (p := ⟨gb102, _, none⟩) NB101_102.out _).trans (((cell_far (p := ⟨gb102, _, none⟩) NB101_102.out _).trans (hHeld.1)))), ((cell_far (p := ⟨gb102, _, none⟩) NB101_102.out _).trans (((cell_far (p := ⟨gb102, _, none⟩) NB101_102.out _).trans (hHeld.2.1)))), ((cell_far (p := ⟨gb102, _, none⟩) NB101_102.out _).trans (((cell_far (p := ⟨gb102, _, none⟩) NB101_102.out _).trans (hHeld.2.2.1)))), ((cell_far (p := ⟨gb102, _, none⟩) NB101_102.out _).trans (((cell_far (p := ⟨gb102, _, none⟩) NB101_102.out _).trans (hHeld.2.2.2.1)))), ((cell_far (p := ⟨gb102, _, none⟩) NB101_102.out _).trans (((cell_far (p := ⟨gb102, _, none⟩) NB101_102.out _).trans (hHeld.2.2.2.2.1)))), ((cell_far (p := ⟨gb102, _, none⟩) NB101_102.out _).trans (((cell_far (p := ⟨gb102, _, none⟩) NB101_102.out _).trans (hHeld.2.2.2.2.2))))⟩ (fun hHeld => ?_)
 clear hK K
 refine done_ (done_of HT_.out (by kernel_rfl)) ?_
 try go_wp2
 refine bodyPost_ret (results_cell_row rfl _ _ gb102 77 #[.int .i64 t103, .int .i64 t104] (0, 0) _ rfl (by (with_reducible repeat (first | refine blk_drewN ?_ _ | refine blk_drew ?_ | refine blk_alloc ?_ _)); refine blk_put (cs := #[.int .i64 t103, .int .i64 0]) ?_ 1 _ rfl; (with_reducible repeat (first | refine blk_drewN ?_ _ | refine blk_drew ?_ | refine blk_alloc ?_ _)); refine blk_put (cs := #[.int .i64 0, .int .i64 0]) ?_ 0 _ rfl; (with_reducible repeat (first | refine blk_drewN ?_ _ | refine blk_drew ?_ | refine blk_alloc ?_ _)); exact BK102.out) Tryd.underlying77 rfl (by kernel_rfl)) rfl ?_
 exact ⟨te, tg2 HB.out GE101.out GE102.out⟩

end Go.Proofs.YtiphindialkmnaaDoor.X
end
section
namespace Go.Proofs.YtiphindialkmnaaDoor.X
open Go.RowKit Go.Proofs.YtiphindialkmnaaDoorW.PrintWords Go.Proofs.YtiphindialkmnaaDoorW.PrintLast Go.Proofs.YtiphindialkmnaaDoorW.PrintMore
attribute [local go_sem] max2_int min2_int max_two min_two max_three min_three max_four min_four
set_option linter.unusedVariables false
set_option linter.unusedSimpArgs false

theorem eqA77 (d : Nat) (w : World) (x0 y0 : Int) (x1 y1 : Int) :
    (Op.equalIn (d + 2) 77 (.agg #[.int .i64 x0, .int .i64 x1]) (.agg #[.int .i64 y0, .int .i64 y1])).run Tryd.prog w = .ok (x0 == y0 && (x1 == y1)) w := by
  refine eqA_of Tryd.underlying77 (by kernel_rfl) ?_
  refine eqf_cons (by rfl) (by go_simp; rfl) (by go_simp; rfl) (by go_simp) ?_
  exact eqf_last (by rfl) (by go_simp; rfl) (by go_simp; rfl) (by go_simp)
end Go.Proofs.YtiphindialkmnaaDoor.X
end
section
namespace Go.Proofs.YtiphindialkmnaaDoor.X
open Go.RowKit Go.Proofs.YtiphindialkmnaaDoorW.PrintWords Go.Proofs.YtiphindialkmnaaDoorW.PrintLast Go.Proofs.YtiphindialkmnaaDoorW.PrintMore
attribute [local go_sem] max2_int min2_int max_two min_two max_three min_three max_four min_four
set_option linter.unusedVariables false
set_option linter.unusedSimpArgs false

/-! ### layout_may: function 68 -/
def layout_may.f (a0 : Int) : Option (Bool) := if a0 ≥ 0 then (some (decide (a0 ≤ 256))) else (some false)
set_option maxHeartbeats 8000000 in
set_option maxRecDepth 100000 in
theorem layout_may.calls (a0 : Int) (r : Bool) (w : World) (h : layout_may.f a0 = some r) :
  Calls Tryd.prog 68 #[.int .i64 a0] w fun e w' => e = .returned (.bool r) ∧ Drawn0 w w' := by
 have H : (if a0 ≥ 0 then (some (decide (a0 ≤ 256))) else (some false)) = some r := h
 clear h
 by_cases c2 : a0 ≥ 0
 ·rw [if_pos c2] at H
  have c2b0 : decide (0 ≤ a0) = true := decide_eq_true c2
  clear c2
  obtain rfl := Option.some.inj H
  go_enter Tryd.func68, Tryd.ntmps68
  go_wp2
  go_ret
  exact ⟨ts, tw⟩
 ·rw [if_neg c2] at H
  have c2b0 : decide (0 ≤ a0) = false := decide_eq_false c2
  clear c2
  obtain rfl := Option.some.inj H
  go_enter Tryd.func68, Tryd.ntmps68
  go_wp2
  go_ret
  exact ⟨ts, tw⟩

end Go.Proofs.YtiphindialkmnaaDoor.X
end
section
namespace Go.Proofs.YtiphindialkmnaaDoor.X
open Go.RowKit Go.Proofs.YtiphindialkmnaaDoorW.PrintWords Go.Proofs.YtiphindialkmnaaDoorW.PrintLast Go.Proofs.YtiphindialkmnaaDoorW.PrintMore
attribute [local go_sem] max2_int min2_int max_two min_two max_three min_three max_four min_four
set_option linter.unusedVariables false
set_option linter.unusedSimpArgs false

attribute [local go_sem high] eqA77
/-! ### layout_Pages: function 67 -/
def layout_Pages.f (a0_0 : Int) (a0_1 : Int) : Option (Int) := if (a0_0 == 0 && (a0_1 == 0)) = true then (some 0) else ((layout_may.f a0_0).bind fun t102 => (if t102 = true then ((layout_may.f a0_1).bind fun t103 => (if t103 = true then (some (wrap64 (a0_0 + a0_1))) else (some 0))) else (some 0)))
set_option maxHeartbeats 8000000 in
set_option maxRecDepth 100000 in
theorem layout_Pages.calls (a0_0 : Int) (a0_1 : Int) (r : Int) (w : World) (h : layout_Pages.f a0_0 a0_1 = some r) :
  Calls Tryd.prog 67 #[.agg #[.int .i64 a0_0, .int .i64 a0_1]] w fun e w' => e = .returned (.int .i64 r) ∧ Below w.heap.size w w' := by
 have hu77 := Tryd.underlying77
 have HB := Aside0.mk (Below.refl w.heap.size w)
 have H : (if (a0_0 == 0 && (a0_1 == 0)) = true then (some 0) else ((layout_may.f a0_0).bind fun t102 => (if t102 = true then ((layout_may.f a0_1).bind fun t103 => (if t103 = true then (some (wrap64 (a0_0 + a0_1))) else (some 0))) else (some 0)))) = some r := h
 clear h
 by_cases c2 : (a0_0 == 0 && (a0_1 == 0)) = true
 ·rw [if_pos c2] at H
  have c2b0 : (a0_0 == 0 && (a0_1 == 0)) = true := c2
  (try (have c2b1 : decide (a0_0 = 0 && (a0_1 == 0)) = true := by simpa using c2))
  (try (have c2b2 : (a0_0 == 0 && (a0_1 == 0)) = true := by simpa using c2))
  clear c2
  obtain rfl := Option.some.inj H
  go_enter Tryd.func67, Tryd.ntmps67
  go_wp2_with (first | ((with_reducible refine gate_dst (N := 1) rfl ?_); refine box_event ?hg (N := 1) ?hd (cs := #[.int .i64 a0_0, .int .i64 a0_1]) (t := 77) ?hr ?_; (case hd => rfl); (case hg => rfl); (case hr => first | (go_simp; done) | (go_simp; rfl)); intro gb101 hg w3 hbox hb; have n0_ := Aside0.mk (below_step (tg HB.out) hb); have n1_ := Aside0.mk (hbox); have n2_ := Aside0.mk ((by rw [hg]; exact (below_size (tg HB.out)) : w.heap.size ≤ gb101)); have n3_ := Aside0.mk ((by rw [hg]; exact (below_size (tg HB.out)) : w.heap.size ≤ gb101)); clear HB; have HB := n0_; have BK101 := n1_; have GW101 := n2_; have GE101 := n3_; clear n0_ n1_ n2_ n3_; clear hb hbox hg; obtain ⟨hcz4_0, hcz4_1, hfz4_0, hfz4_1⟩ := cq2 BK101.out))
  go_ret
  exact ⟨te, tg1 HB.out GE101.out⟩
 ·rw [if_neg c2] at H
  have c2b0 : (a0_0 == 0 && (a0_1 == 0)) = false := by simpa using c2
  (try (have c2b1 : decide (a0_0 = 0 && (a0_1 == 0)) = false := by simpa using c2))
  (try (have c2b2 : (a0_0 == 0 && (a0_1 == 0)) = false := by simpa using c2))
  (try (have c2b3 : ¬ (a0_0 = 0 && (a0_1 == 0)) := by simpa using c2))
  clear c2
  replace H := Option.bind_eq_some_iff.mp H
  obtain ⟨t102, A50, H⟩ := H
  replace H : (if t102 = true then ((layout_may.f a0_1).bind fun t103 => (if t103 = true then (some (wrap64 (a0_0 + a0_1))) else (some 0))) else (some 0)) = some r := H
  have A5 := Aside0.mk A50
  clear A50
  by_cases c6 : t102 = true
  ·subst c6
   have H1 : ((layout_may.f a0_1).bind fun t103 => (if t103 = true then (some (wrap64 (a0_0 + a0_1))) else (some 0))) = some r := by rw [if_pos rfl] at H; exact H
   clear H
   have H := H1
   clear H1
   replace H := Option.bind_eq_some_iff.mp H
   obtain ⟨t103, A70, H⟩ := H
   replace H : (if t103 = true then (some (wrap64 (a0_0 + a0_1))) else (some 0)) = some r := H
   have A7 := Aside0.mk A70
   clear A70
   by_cases c8 : t103 = true
   ·subst c8
    have H1 : (some (wrap64 (a0_0 + a0_1))) = some r := by rw [if_pos rfl] at H; exact H
    clear H
    have H := H1
    clear H1
    obtain rfl := Option.some.inj H
    go_enter Tryd.func67, Tryd.ntmps67
    go_wp2_with (first | ((with_reducible refine gate_dst (N := 1) rfl ?_); refine box_event ?hg (N := 1) ?hd (cs := #[.int .i64 a0_0, .int .i64 a0_1]) (t := 77) ?hr ?_; (case hd => rfl); (case hg => rfl); (case hr => first | (go_simp; done) | (go_simp; rfl)); intro gb101 hg w9 hbox hb; have n0_ := Aside0.mk (below_step (tg HB.out) hb); have n1_ := Aside0.mk (hbox); have n2_ := Aside0.mk ((by rw [hg]; exact (below_size (tg HB.out)) : w.heap.size ≤ gb101)); have n3_ := Aside0.mk ((by rw [hg]; exact (below_size (tg HB.out)) : w.heap.size ≤ gb101)); clear HB; have HB := n0_; have BK101 := n1_; have GW101 := n2_; have GE101 := n3_; clear n0_ n1_ n2_ n3_; clear hb hbox hg; obtain ⟨hcz10_0, hcz10_1, hfz10_0, hfz10_1⟩ := cq2 BK101.out) | (go_at_call 68; (with_reducible refine (layout_may.calls a0_0 true _ A5.out).mono ?_); rintro e w' ⟨rfl, ⟨nd, rfl⟩⟩) | (go_at_call 68; (with_reducible refine (layout_may.calls a0_1 true _ A7.out).mono ?_); rintro e w' ⟨rfl, ⟨nd, rfl⟩⟩))
    go_ret
    exact ⟨te, tg1 HB.out GE101.out⟩
   ·replace c8 := Bool.eq_false_iff.mpr c8
    subst c8
    have H1 : (some 0) = some r := by rw [if_neg (show ¬ (false = true) by decide)] at H; exact H
    clear H
    have H := H1
    clear H1
    obtain rfl := Option.some.inj H
    go_enter Tryd.func67, Tryd.ntmps67
    go_wp2_with (first | ((with_reducible refine gate_dst (N := 1) rfl ?_); refine box_event ?hg (N := 1) ?hd (cs := #[.int .i64 a0_0, .int .i64 a0_1]) (t := 77) ?hr ?_; (case hd => rfl); (case hg => rfl); (case hr => first | (go_simp; done) | (go_simp; rfl)); intro gb101 hg w11 hbox hb; have n0_ := Aside0.mk (below_step (tg HB.out) hb); have n1_ := Aside0.mk (hbox); have n2_ := Aside0.mk ((by rw [hg]; exact (below_size (tg HB.out)) : w.heap.size ≤ gb101)); have n3_ := Aside0.mk ((by rw [hg]; exact (below_size (tg HB.out)) : w.heap.size ≤ gb101)); clear HB; have HB := n0_; have BK101 := n1_; have GW101 := n2_; have GE101 := n3_; clear n0_ n1_ n2_ n3_; clear hb hbox hg; obtain ⟨hcz12_0, hcz12_1, hfz12_0, hfz12_1⟩ := cq2 BK101.out) | (go_at_call 68; (with_reducible refine (layout_may.calls a0_0 true _ A5.out).mono ?_); rintro e w' ⟨rfl, ⟨nd, rfl⟩⟩) | (go_at_call 68; (with_reducible refine (layout_may.calls a0_1 false _ A7.out).mono ?_); rintro e w' ⟨rfl, ⟨nd, rfl⟩⟩))
    go_ret
    exact ⟨te, tg1 HB.out GE101.out⟩
  ·replace c6 := Bool.eq_false_iff.mpr c6
   subst c6
   have H1 : (some 0) = some r := by rw [if_neg (show ¬ (false = true) by decide)] at H; exact H
   clear H
   have H := H1
   clear H1
   obtain rfl := Option.some.inj H
   go_enter Tryd.func67, Tryd.ntmps67
   go_wp2_with (first | ((with_reducible refine gate_dst (N := 1) rfl ?_); refine box_event ?hg (N := 1) ?hd (cs := #[.int .i64 a0_0, .int .i64 a0_1]) (t := 77) ?hr ?_; (case hd => rfl); (case hg => rfl); (case hr => first | (go_simp; done) | (go_simp; rfl)); intro gb101 hg w13 hbox hb; have n0_ := Aside0.mk (below_step (tg HB.out) hb); have n1_ := Aside0.mk (hbox); have n2_ := Aside0.mk ((by rw [hg]; exact (below_size (tg HB.out)) : w.heap.size ≤ gb101)); have n3_ := Aside0.mk ((by rw [hg]; exact (below_size (tg HB.out)) : w.heap.size ≤ gb101)); clear HB; have HB := n0_; have BK101 := n1_; have GW101 := n2_; have GE101 := n3_; clear n0_ n1_ n2_ n3_; clear hb hbox hg; obtain ⟨hcz14_0, hcz14_1, hfz14_0, hfz14_1⟩ := cq2 BK101.out) | (go_at_call 68; (with_reducible refine (layout_may.calls a0_0 false _ A5.out).mono ?_); rintro e w' ⟨rfl, ⟨nd, rfl⟩⟩))
   go_ret
   exact ⟨te, tg1 HB.out GE101.out⟩

end Go.Proofs.YtiphindialkmnaaDoor.X
end
section
namespace Go.Proofs.YtiphindialkmnaaDoor.X
open Go.RowKit Go.Proofs.YtiphindialkmnaaDoorW.PrintWords Go.Proofs.YtiphindialkmnaaDoorW.PrintLast Go.Proofs.YtiphindialkmnaaDoorW.PrintMore
attribute [local go_sem] max2_int min2_int max_two min_two max_three min_three max_four min_four
set_option linter.unusedVariables false
set_option linter.unusedSimpArgs false

/-! ### layout_Words: function 34 -/
def layout_Words.f (a0_0 : Int) (a0_1 : Int) : Option (Int) := (layout_Pages.f a0_0 a0_1).bind fun t102 => (some (wrap64 (t102 * 16)))
set_option maxHeartbeats 8000000 in
set_option maxRecDepth 100000 in
theorem layout_Words.calls (a0_0 : Int) (a0_1 : Int) (r : Int) (w : World) (h : layout_Words.f a0_0 a0_1 = some r) :
  Calls Tryd.prog 34 #[.agg #[.int .i64 a0_0, .int .i64 a0_1]] w fun e w' => e = .returned (.int .i64 r) ∧ Below w.heap.size w w' := by
 have hu77 := Tryd.underlying77
 have HB := Aside0.mk (Below.refl w.heap.size w)
 have H : ((layout_Pages.f a0_0 a0_1).bind fun t102 => (some (wrap64 (t102 * 16)))) = some r := h
 clear h
 replace H := Option.bind_eq_some_iff.mp H
 obtain ⟨t102, A20, H⟩ := H
 replace H : (some (wrap64 (t102 * 16))) = some r := H
 have A2 := Aside0.mk A20
 clear A20
 obtain rfl := Option.some.inj H
 go_enter Tryd.func34, Tryd.ntmps34
 go_wp2_with (first | ((with_reducible refine gate_dst (N := 1) rfl ?_); refine box_event ?hg (N := 1) ?hd (cs := #[.int .i64 a0_0, .int .i64 a0_1]) (t := 77) ?hr ?_; (case hd => rfl); (case hg => rfl); (case hr => first | (go_simp; done) | (go_simp; rfl)); intro gb101 hg w3 hbox hb; have n0_ := Aside0.mk (below_step (tg HB.out) hb); have n1_ := Aside0.mk (hbox); have n2_ := Aside0.mk ((by rw [hg]; exact (below_size (tg HB.out)) : w.heap.size ≤ gb101)); have n3_ := Aside0.mk ((by rw [hg]; exact (below_size (tg HB.out)) : w.heap.size ≤ gb101)); clear HB; have HB := n0_; have BK101 := n1_; have GW101 := n2_; have GE101 := n3_; clear n0_ n1_ n2_ n3_; clear hb hbox hg; obtain ⟨hcz4_0, hcz4_1, hfz4_0, hfz4_1⟩ := cq2 BK101.out) | ((with_reducible refine gate_callee (f := 67) rfl ?_); refine goesL_ (some 4) rfl rfl Tryd.func67 (by kernel_rfl) rfl #[.agg #[.int .i64 a0_0, .int .i64 a0_1]] rfl tm ?_; (with_reducible refine (layout_Pages.calls a0_0 a0_1 t102 _ A2.out).mono ?_); rintro e w5 ⟨rfl, hb⟩; refine ⟨_, rfl, ?_⟩; replace BK101 := ba BK101.out hb; replace HB := Aside0.mk (below_step (tg1 HB.out GE101.out) hb); (try clear hb)))
 go_ret
 exact ⟨te, tg1 HB.out GE101.out⟩

end Go.Proofs.YtiphindialkmnaaDoor.X
end
section
namespace Go.Proofs.YtiphindialkmnaaDoor.X
open Go.RowKit Go.Proofs.YtiphindialkmnaaDoorW.PrintWords Go.Proofs.YtiphindialkmnaaDoorW.PrintLast Go.Proofs.YtiphindialkmnaaDoorW.PrintMore
attribute [local go_sem] max2_int min2_int max_two min_two max_three min_three max_four min_four
set_option linter.unusedVariables false
set_option linter.unusedSimpArgs false

/-! ### layout_address: function 69 -/
def layout_address.f (a0 : Int) : Option (Int) := some ((wrap64 (80 + (wrap64 (a0 * 16)))) % 4294967296)
set_option maxHeartbeats 8000000 in
set_option maxRecDepth 100000 in
theorem layout_address.calls (a0 : Int) (r : Int) (w : World) (h : layout_address.f a0 = some r) :
  Calls Tryd.prog 69 #[.int .i64 a0] w fun e w' => e = .returned (.int .u32 r) ∧ Drawn0 w w' := by
 have H : (some ((wrap64 (80 + (wrap64 (a0 * 16)))) % 4294967296)) = some r := h
 clear h
 obtain rfl := Option.some.inj H
 go_enter Tryd.func69, Tryd.ntmps69
 go_wp2
 go_ret
 exact ⟨ts, tw⟩

end Go.Proofs.YtiphindialkmnaaDoor.X
end
section
namespace Go.Proofs.YtiphindialkmnaaDoor.X
open Go.RowKit Go.Proofs.YtiphindialkmnaaDoorW.PrintWords Go.Proofs.YtiphindialkmnaaDoorW.PrintLast Go.Proofs.YtiphindialkmnaaDoorW.PrintMore
attribute [local go_sem] max2_int min2_int max_two min_two max_three min_three max_four min_four
set_option linter.unusedVariables false
set_option linter.unusedSimpArgs false

/-! ### layout_At: function 31 -/
def layout_At.j0 : Nat → Int → Bool → Int → Int → Option (Int × Int × Int)
 | 0, _, _, _, _ => none
 | k + 1, x1, x13, x102000, x102001 => if x13 = true then (some (0, 0, 11)) else ((layout_address.f x1).bind fun t105 => ((layout_address.f (wrap64 (x1 + x102000))).bind fun t106 => (some (t105, t106, 0))))
def layout_At.f (k : Nat) (a0_0 : Int) (a0_1 : Int) (a1 : Int) : Option (Int × Int × Int) := (layout_Pages.f a0_0 a0_1).bind fun t103 => (if t103 = 0 then (some (0, 0, 2)) else ((layout_may.f a1).bind fun t104 => (if t104 = true then (layout_At.j0 k a1 (decide (a1 > (wrap64 (256 - t103)))) a0_0 a0_1) else (layout_At.j0 k a1 true a0_0 a0_1))))
theorem layout_At.mono_l : ∀ k, (∀ y0 y1 y2 y3, LeO (layout_At.j0 k y0 y1 y2 y3) (layout_At.j0 (k + 1) y0 y1 y2 y3))
 | 0 => fun _ _ _ _ r h => by simp [layout_At.j0] at h
 | k + 1 => by
  have ih0 := layout_At.mono_l k
  ·intro y0 y1 y2 y3
   unfold layout_At.j0
   repeat' first
   | (with_reducible exact ih0 _ _ _ _)
   | (with_reducible exact LeO.refl _)
   | (with_reducible exact LeO.none _)
   | (with_reducible refine LeO.ite ?_ ?_)
   | (with_reducible refine LeO.bind ?_ (fun _ => ?_))
theorem layout_At.mono : ∀ a0 a1 a2 k, LeO (layout_At.f k a0 a1 a2) (layout_At.f (k + 1) a0 a1 a2) := by
 intro a0 a1 a2 k
 have ih0 := layout_At.mono_l k
 unfold layout_At.f
 repeat' first
   | (with_reducible exact ih0 _ _ _ _)
   | (with_reducible exact LeO.refl _)
   | (with_reducible exact LeO.none _)
   | (with_reducible refine LeO.ite ?_ ?_)
   | (with_reducible refine LeO.bind ?_ (fun _ => ?_))
def layout_At.T6 : Bool × List (List Nat × List Nat) := (true, [([], []), ([0], [0]), ([], []), ([], []), ([3], [3]), ([2, 4], [2, 4]), ([5, 1], [5]), ([1, 6], [1, 6]), ([7, 6, 0, 1, 2, 3, 4, 5, 6, 7], [7]), ([8, 0, 1, 2, 3, 4, 5, 6, 7, 8], [])])
def layout_At.B6 : List Nat := [0, 1, 0, 0, 8, 28, 63, 127, 255, 511]
theorem layout_At.tab6 : rtab .any (opsOf Tryd.f31 6) = layout_At.T6 := by kernel_rfl
theorem layout_At.bits6 : waitsOk layout_At.T6.2 layout_At.B6 = true := by kernel_rfl
set_option maxHeartbeats 8000000 in
set_option maxRecDepth 100000 in
theorem layout_At.calls (k : Nat) (a0_0 : Int) (a0_1 : Int) (a1 : Int) (r1 : Int) (r2 : Int) (r3 : Int) (w : World) (h : layout_At.f k a0_0 a0_1 a1 = some (r1, r2, r3)) :
  Calls Tryd.prog 31 #[.agg #[.int .i64 a0_0, .int .i64 a0_1], .int .i64 a1] w fun e w' => e = .returned (.tuple #[.agg #[.int .u32 r1, .int .u32 r2], .int .i64 r3]) ∧ Below w.heap.size w w' := by
 have hu77 := Tryd.underlying77
 have hu73 := Tryd.underlying73
 have HB := Aside0.mk (Below.refl w.heap.size w)
 have H : ((layout_Pages.f a0_0 a0_1).bind fun t103 => (if t103 = 0 then (some (0, 0, 2)) else ((layout_may.f a1).bind fun t104 => (if t104 = true then (layout_At.j0 k a1 (decide (a1 > (wrap64 (256 - t103)))) a0_0 a0_1) else (layout_At.j0 k a1 true a0_0 a0_1))))) = some (r1, r2, r3) := h
 clear h
 replace H := Option.bind_eq_some_iff.mp H
 obtain ⟨t103, A30, H⟩ := H
 replace H : (if t103 = 0 then (some (0, 0, 2)) else ((layout_may.f a1).bind fun t104 => (if t104 = true then (layout_At.j0 k a1 (decide (a1 > (wrap64 (256 - t103)))) a0_0 a0_1) else (layout_At.j0 k a1 true a0_0 a0_1)))) = some (r1, r2, r3) := H
 have A3 := Aside0.mk A30
 clear A30
 by_cases c4 : t103 = 0
 ·rw [if_pos c4] at H
  have c4b0 : (t103 == 0) = true := beq_iff_eq.mpr c4
  have c4b1 : (t103 != 0) = false := bne_eq_false_iff_eq.mpr c4
  clear c4
  simp only [Option.some.injEq, Prod.mk.injEq] at H
  obtain ⟨rfl, rfl, rfl⟩ := H
  go_enter Tryd.func31, Tryd.ntmps31
  go_wp2_with (first | ((with_reducible refine gate_dst (N := 2) rfl ?_); refine box_event ?hg (N := 2) ?hd (cs := #[.int .i64 a0_0, .int .i64 a0_1]) (t := 77) ?hr ?_; (case hd => rfl); (case hg => rfl); (case hr => first | (go_simp; done) | (go_simp; rfl)); intro gb101 hg w5 hbox hb; have n0_ := Aside0.mk (below_step (tg HB.out) hb); have n1_ := Aside0.mk (hbox); have n2_ := Aside0.mk ((by rw [hg]; exact (below_size (tg HB.out)) : w.heap.size ≤ gb101)); have n3_ := Aside0.mk ((by rw [hg]; exact (below_size (tg HB.out)) : w.heap.size ≤ gb101)); clear HB; have HB := n0_; have BK101 := n1_; have GW101 := n2_; have GE101 := n3_; clear n0_ n1_ n2_ n3_; clear hb hbox hg) | ((with_reducible refine gate_dst (N := 4) rfl ?_); refine box_event ?hg (N := 4) ?hd (cs := #[.int .u32 0, .int .u32 0]) (t := 73) ?hr ?_; (case hd => rfl); (case hg => rfl); (case hr => first | (go_simp; done) | (go_simp; rfl)); intro gb102 hg w6 hbox hb; have n0_ := ba BK101.out hb; have n1_ := Aside0.mk (below_step (tg1 HB.out GE101.out) hb); have n2_ := Aside0.mk (hbox); have n3_ := Aside0.mk ((by rw [hg]; exact (below_size (tg1 HB.out GE101.out)) : w.heap.size ≤ gb102)); have n4_ := Aside0.mk ((by rw [hg]; exact (below_size (tg1 HB.out GE101.out)) : w.heap.size ≤ gb102)); have n5_ := Aside0.mk ((by rw [hg]; exact Nat.ne_of_lt (blk_lt (g := gb101) (o := .cells #[.int .i64 a0_0, .int .i64 a0_1] 77 (0, 0)) (tb BK101.out)) : gb101 ≠ gb102)); have n6_ := Aside0.mk ((by rw [hg]; exact Nat.ne_of_gt (blk_lt (g := gb101) (o := .cells #[.int .i64 a0_0, .int .i64 a0_1] 77 (0, 0)) (tb BK101.out)) : gb102 ≠ gb101)); clear BK101; clear HB; have BK101 := n0_; have HB := n1_; have BK102 := n2_; have GW102 := n3_; have GE102 := n4_; have NB101_102 := n5_; have NB102_101 := n6_; clear n0_ n1_ n2_ n3_ n4_ n5_ n6_; clear hb hbox hg; have hnb7 := NB101_102.out; have hnc7 := NB102_101.out; obtain ⟨hcz8_0, hcz8_1, hfz8_0, hfz8_1⟩ := cq2 BK101.out) | ((with_reducible refine gate_callee (f := 67) rfl ?_); refine goesL_ (some 8) rfl rfl Tryd.func67 (by kernel_rfl) rfl #[.agg #[.int .i64 a0_0, .int .i64 a0_1]] rfl tm ?_; (with_reducible refine (layout_Pages.calls a0_0 a0_1 t103 _ A3.out).mono ?_); rintro e w9 ⟨rfl, hb⟩; refine ⟨_, rfl, ?_⟩; replace BK101 := ba BK101.out hb; replace BK102 := ba BK102.out hb; replace HB := Aside0.mk (below_step (tg2 HB.out GE101.out GE102.out) hb); (try clear hb); obtain ⟨hcz10_0, hcz10_1, hfz10_0, hfz10_1⟩ := cq2 BK102.out))
  refine bodyPost_ret (results_ct rfl _ _ gb102 73 #[.int .u32 0, .int .u32 0] (0, 0) _ rfl (by (with_reducible repeat (first | refine blk_drewN ?_ _ | refine blk_drew ?_ | refine blk_alloc ?_ _)); refine blk_put (cs := #[.int .u32 0, .int .u32 0]) ?_ 1 _ rfl; (with_reducible repeat (first | refine blk_drewN ?_ _ | refine blk_drew ?_ | refine blk_alloc ?_ _)); refine blk_put (cs := #[.int .u32 0, .int .u32 0]) ?_ 0 _ rfl; (with_reducible repeat (first | refine blk_drewN ?_ _ | refine blk_drew ?_ | refine blk_alloc ?_ _)); exact BK102.out) Tryd.underlying73 rfl (by kernel_rfl)) rfl ?_
  exact ⟨te, tg2 HB.out GE101.out GE102.out⟩
 ·rw [if_neg c4] at H
  have c4b0 : (t103 == 0) = false := beq_eq_false_iff_ne.mpr c4
  have c4b1 : (t103 != 0) = true := bne_iff_ne.mpr c4
  have HC11 := Aside0.mk H
  clear H
  go_enter Tryd.func31, Tryd.ntmps31
  go_upto_region 4 with (first | ((with_reducible refine gate_dst (N := 2) rfl ?_); refine box_event ?hg (N := 2) ?hd (cs := #[.int .i64 a0_0, .int .i64 a0_1]) (t := 77) ?hr ?_; (case hd => rfl); (case hg => rfl); (case hr => first | (go_simp; done) | (go_simp; rfl)); intro gb101 hg w12 hbox hb; have n0_ := Aside0.mk (below_step (tg HB.out) hb); have n1_ := Aside0.mk (hbox); have n2_ := Aside0.mk ((by rw [hg]; exact (below_size (tg HB.out)) : w.heap.size ≤ gb101)); have n3_ := Aside0.mk ((by rw [hg]; exact (below_size (tg HB.out)) : w.heap.size ≤ gb101)); clear HB; have HB := n0_; have BK101 := n1_; have GW101 := n2_; have GE101 := n3_; clear n0_ n1_ n2_ n3_; clear hb hbox hg) | ((with_reducible refine gate_dst (N := 4) rfl ?_); refine box_event ?hg (N := 4) ?hd (cs := #[.int .u32 0, .int .u32 0]) (t := 73) ?hr ?_; (case hd => rfl); (case hg => rfl); (case hr => first | (go_simp; done) | (go_simp; rfl)); intro gb102 hg w13 hbox hb; have n0_ := ba BK101.out hb; have n1_ := Aside0.mk (below_step (tg1 HB.out GE101.out) hb); have n2_ := Aside0.mk (hbox); have n3_ := Aside0.mk ((by rw [hg]; exact (below_size (tg1 HB.out GE101.out)) : w.heap.size ≤ gb102)); have n4_ := Aside0.mk ((by rw [hg]; exact (below_size (tg1 HB.out GE101.out)) : w.heap.size ≤ gb102)); have n5_ := Aside0.mk ((by rw [hg]; exact Nat.ne_of_lt (blk_lt (g := gb101) (o := .cells #[.int .i64 a0_0, .int .i64 a0_1] 77 (0, 0)) (tb BK101.out)) : gb101 ≠ gb102)); have n6_ := Aside0.mk ((by rw [hg]; exact Nat.ne_of_gt (blk_lt (g := gb101) (o := .cells #[.int .i64 a0_0, .int .i64 a0_1] 77 (0, 0)) (tb BK101.out)) : gb102 ≠ gb101)); clear BK101; clear HB; have BK101 := n0_; have HB := n1_; have BK102 := n2_; have GW102 := n3_; have GE102 := n4_; have NB101_102 := n5_; have NB102_101 := n6_; clear n0_ n1_ n2_ n3_ n4_ n5_ n6_; clear hb hbox hg; have hnb14 := NB101_102.out; have hnc14 := NB102_101.out; obtain ⟨hcz15_0, hcz15_1, hfz15_0, hfz15_1⟩ := cq2 BK101.out) | ((with_reducible refine gate_callee (f := 67) rfl ?_); refine goesL_ (some 8) rfl rfl Tryd.func67 (by kernel_rfl) rfl #[.agg #[.int .i64 a0_0, .int .i64 a0_1]] rfl tm ?_; (with_reducible refine (layout_Pages.calls a0_0 a0_1 t103 _ A3.out).mono ?_); rintro e w16 ⟨rfl, hb⟩; refine ⟨_, rfl, ?_⟩; replace BK101 := ba BK101.out hb; replace BK102 := ba BK102.out hb; replace HB := Aside0.mk (below_step (tg2 HB.out GE101.out GE102.out) hb); (try clear hb)))
  (try simp only [Act.put, List.setIfInBounds_toArray, List.set_cons_zero, List.set_cons_succ])
  go_cut [13] (fun v13 wc => ∃ (kq : Nat) (x13_10 : Bool), v13 = .bool x13_10 ∧ Aside0 (layout_At.j0 kq a1 x13_10 a0_0 a0_1 = some (r1, r2, r3)) ∧ Aside0 (kq ≤ k) ∧ Aside0 (wc.heap[gb101]? = some (.cells #[.int .i64 a0_0, .int .i64 a0_1] 77 (0, 0))) ∧ Aside0 (wc.heap[gb102]? = some (.cells #[.int .u32 0, .int .u32 0] 73 (0, 0))) ∧ Aside0 (Below w.heap.size w wc))
  case first =>
   have H := HC11.out
   clear HC11
   replace H := Option.bind_eq_some_iff.mp H
   obtain ⟨t104, A170, H⟩ := H
   replace H : (if t104 = true then (layout_At.j0 k a1 (decide (a1 > (wrap64 (256 - t103)))) a0_0 a0_1) else (layout_At.j0 k a1 true a0_0 a0_1)) = some (r1, r2, r3) := H
   have A17 := Aside0.mk A170
   clear A170
   by_cases c18 : t104 = true
   ·subst c18
    have H1 : (layout_At.j0 k a1 (decide (a1 > (wrap64 (256 - t103)))) a0_0 a0_1) = some (r1, r2, r3) := by rw [if_pos rfl] at H; exact H
    clear H
    have H := H1
    clear H1
    have H' := Aside0.mk H
    clear H
    go_wp2_with (first | ((with_reducible refine gate_callee (f := 68) rfl ?_); refine goesL_ (some 15) rfl rfl Tryd.func68 (by kernel_rfl) rfl #[.int .i64 a1] rfl tm ?_; (with_reducible refine (layout_may.calls a1 true _ A17.out).mono ?_); rintro e w' ⟨rfl, ⟨nd, rfl⟩⟩; refine ⟨_, rfl, ?_⟩))
    go_meet
    case rel => exact ⟨_, (decide (a1 > (wrap64 (256 - t103)))), ts, H', ⟨tn⟩, ⟨tb BK101.out⟩, ⟨tb BK102.out⟩, ⟨tg2 HB.out GE101.out GE102.out⟩⟩
   ·replace c18 := Bool.eq_false_iff.mpr c18
    subst c18
    have H1 : (layout_At.j0 k a1 true a0_0 a0_1) = some (r1, r2, r3) := by rw [if_neg (show ¬ (false = true) by decide)] at H; exact H
    clear H
    have H := H1
    clear H1
    have H' := Aside0.mk H
    clear H
    go_wp2_with (first | ((with_reducible refine gate_callee (f := 68) rfl ?_); refine goesL_ (some 15) rfl rfl Tryd.func68 (by kernel_rfl) rfl #[.int .i64 a1] rfl tm ?_; (with_reducible refine (layout_may.calls a1 false _ A17.out).mono ?_); rintro e w' ⟨rfl, ⟨nd, rfl⟩⟩; refine ⟨_, rfl, ?_⟩))
    go_meet
    case rel => exact ⟨_, (true), ts, H', ⟨tn⟩, ⟨tb BK101.out⟩, ⟨tb BK102.out⟩, ⟨tg2 HB.out GE101.out GE102.out⟩⟩
  case rest =>
   clear HC11
   try clear c1
   try clear p2
   try clear c3
   try clear c4
   try clear c4b0
   try clear c4b1
   try clear c6
   try clear p6
   try clear c7
   try clear c14
   try clear c18
   try clear hcz10_0 hcz10_1 hfz10_0 hfz10_1
   try clear hcz15_0 hcz15_1 hfz15_0 hfz15_1
   try clear hcz8_0 hcz8_1 hfz8_0 hfz8_1
   obtain ⟨kq, x13_10, rfl, HA, HJ10, BK101, BK102, HB⟩ := hcut
   cases kq with
   | zero => exact absurd HA.out (by simp [layout_At.j0])
   | succ kj10 =>
    have H := HA.out
    clear HA
    simp only [layout_At.j0] at H
    by_cases c19 : x13_10 = true
    ·subst c19
     have H1 : (some (0, 0, 11)) = some (r1, r2, r3) := by rw [if_pos rfl] at H; exact H
     clear H
     have H := H1
     clear H1
     simp only [Option.some.injEq, Prod.mk.injEq] at H
     obtain ⟨rfl, rfl, rfl⟩ := H
     have hnb20 := NB102_101.out
     have hnc20 := NB101_102.out
     obtain ⟨hcz21_0, hcz21_1, hfz21_0, hfz21_1⟩ := cq2 BK102.out
     go_wp2
     refine bodyPost_ret (results_ct rfl _ _ gb102 73 #[.int .u32 0, .int .u32 0] (0, 0) _ rfl (by (with_reducible repeat (first | refine blk_drewN ?_ _ | refine blk_drew ?_ | refine blk_alloc ?_ _)); refine blk_put (cs := #[.int .u32 0, .int .u32 0]) ?_ 1 _ rfl; (with_reducible repeat (first | refine blk_drewN ?_ _ | refine blk_drew ?_ | refine blk_alloc ?_ _)); refine blk_put (cs := #[.int .u32 0, .int .u32 0]) ?_ 0 _ rfl; (with_reducible repeat (first | refine blk_drewN ?_ _ | refine blk_drew ?_ | refine blk_alloc ?_ _)); exact BK102.out) Tryd.underlying73 rfl (by kernel_rfl)) rfl ?_
     exact ⟨te, tg2 HB.out GE101.out GE102.out⟩
    ·replace c19 := Bool.eq_false_iff.mpr c19
     subst c19
     have H1 : ((layout_address.f a1).bind fun t105 => ((layout_address.f (wrap64 (a1 + a0_0))).bind fun t106 => (some (t105, t106, 0)))) = some (r1, r2, r3) := by rw [if_neg (show ¬ (false = true) by decide)] at H; exact H
     clear H
     have H := H1
     clear H1
     replace H := Option.bind_eq_some_iff.mp H
     obtain ⟨t105, A220, H⟩ := H
     replace H : ((layout_address.f (wrap64 (a1 + a0_0))).bind fun t106 => (some (t105, t106, 0))) = some (r1, r2, r3) := H
     have A22 := Aside0.mk A220
     clear A220
     replace H := Option.bind_eq_some_iff.mp H
     obtain ⟨t106, A230, H⟩ := H
     replace H : (some (t105, t106, 0)) = some (r1, r2, r3) := H
     have A23 := Aside0.mk A230
     clear A230
     simp only [Option.some.injEq, Prod.mk.injEq] at H
     obtain ⟨rfl, rfl, rfl⟩ := H
     try go_wp2
     replace BK101 := Aside0.mk (blk_drew BK101.out)
     replace BK102 := Aside0.mk (blk_drew BK102.out)
     replace HB := Aside0.mk (below_drew1 HB.out)
     refine start_ (n := 10) (S := fun w' => w'.cell? ⟨gb101, 0, none⟩ = some (.int .i64 a0_0) ∧ w'.cell? ⟨gb101, 1, none⟩ = some (.int .i64 a0_1)) (ds := []) #[false, false, false, false, false, false, false, false, false, false] (by kernel_rfl) rfl rfl ⟨(blk_cell BK101.out 0).trans rfl, (blk_cell BK101.out 1).trans rfl⟩ (fun hHeld => ?_); refine with_tabW layout_At.tab6 layout_At.bits6 (fun HT_ HW_ => ?_)
     generalize wc.drew = w24 at BK101 BK102 HB hHeld ⊢
     refine pure_ (i := 0) (N := some 24) (v := ?_) (a' := ?_) #[true, false, false, false, false, false, false, false, false, false] rfl rfl (any_of HT_.out (by kernel_rfl)) (fun _ _ _ h => h) (Or.inl ⟨by rfl, ?_⟩) ?_ ?_
     rotate_left
     ·intro w'
      go_simp
      with_reducible rfl
     rotate_left
     ·simp only [Act.put, List.setIfInBounds_toArray, List.set_cons_zero, List.set_cons_succ, i64_w, i32_w]
      rfl
     refine pure_ (i := 2) (N := some 26) (v := ?_) (a' := ?_) #[true, false, true, false, false, false, false, false, false, false] rfl rfl (any_of HT_.out (by kernel_rfl)) (fun _ _ _ h => h) (Or.inl ⟨by rfl, ?_⟩) ?_ ?_
     rotate_left
     ·intro w'
      go_simp
      with_reducible rfl
     rotate_left
     ·simp only [Act.put, List.setIfInBounds_toArray, List.set_cons_zero, List.set_cons_succ, i64_w, i32_w]
      rfl
     refine pure_ (i := 3) (N := some 27) (v := ?_) (a' := ?_) #[true, false, true, true, false, false, false, false, false, false] rfl rfl (any_of HT_.out (by kernel_rfl)) (fun _ _ _ h => h) (Or.inl ⟨by rfl, ?_⟩) ?_ ?_
     rotate_left
     ·intro w'
      go_simp
      with_reducible rfl
     rotate_left
     ·simp only [Act.put, List.setIfInBounds_toArray, List.set_cons_zero, List.set_cons_succ, i64_w, i32_w]
      rfl
     refine take_ (i := 4) (N := some 28) (v := ?_) (a' := ?_) #[true, false, true, true, true, false, false, false, false, false] rfl rfl (take_ofW HT_.out HW_.out (by kernel_rfl)) (fun _ _ _ h => h) (Or.inl ⟨by rfl, ?_⟩) hHeld ?_ ?_
     rotate_left
     ·rintro w' ⟨s0, s1⟩
      go_simp
      with_reducible rfl
     rotate_left
     ·simp only [Act.put, List.setIfInBounds_toArray, List.set_cons_zero, List.set_cons_succ, i64_w, i32_w]
      rfl
     refine pure_ (i := 5) (N := some 29) (v := ?_) (a' := ?_) #[true, false, true, true, true, true, false, false, false, false] rfl rfl (any_of HT_.out (by kernel_rfl)) (fun _ _ _ h => h) (Or.inl ⟨by rfl, ?_⟩) ?_ ?_
     rotate_left
     ·intro w'
      go_simp
      with_reducible rfl
     rotate_left
     ·simp only [Act.put, List.setIfInBounds_toArray, List.set_cons_zero, List.set_cons_succ, i64_w, i32_w]
      rfl
     refine one_ (i := 1) (N := some 25) #[true, true, true, true, true, true, false, false, false, false] rfl rfl (one_of HT_.out (by kernel_rfl)) (by decide) (fun K hK => ?_)
     refine goes_ Tryd.func69 (by kernel_rfl) rfl #[.int .i64 a1] (by rfl) rfl rfl tm ?_
     with_reducible refine (layout_address.calls a1 t105 _ A22.out).mono ?_
     rintro e w' ⟨rfl, ⟨nd, rfl⟩⟩
     refine ⟨_, rfl, ?_⟩
     refine hK.out _ _ ⟨(blk_cell BK101.out 0).trans rfl, (blk_cell BK101.out 1).trans rfl⟩ (fun hHeld => ?_)
     clear hK K
     refine norm_ (a' := ?_) ?_ ?_
     rotate_left
     ·show Act.put _ (some 25) _ = _
      simp only [Act.put, List.setIfInBounds_toArray, List.set_cons_zero, List.set_cons_succ, i64_w, i32_w]
      rfl
     refine one_ (i := 6) (N := some 30) #[true, true, true, true, true, true, true, false, false, false] rfl rfl (one_of HT_.out (by kernel_rfl)) (by decide) (fun K hK => ?_)
     refine goes_ Tryd.func69 (by kernel_rfl) rfl #[.int .i64 (wrap64 (a1 + a0_0))] (by rfl) rfl rfl tm ?_
     with_reducible refine (layout_address.calls (wrap64 (a1 + a0_0)) t106 _ A23.out).mono ?_
     rintro e w' ⟨rfl, ⟨nd, rfl⟩⟩
     refine ⟨_, rfl, ?_⟩
     refine hK.out _ _ ⟨(blk_cell BK101.out 0).trans rfl, (blk_cell BK101.out 1).trans rfl⟩ (fun hHeld => ?_)
     clear hK K
     refine norm_ (a' := ?_) ?_ ?_
     rotate_left
     ·show Act.put _ (some 30) _ = _
      simp only [Act.put, List.setIfInBounds_toArray, List.set_cons_zero, List.set_cons_succ, i64_w, i32_w]
      rfl
     refine pure_ (i := 7) (N := some 31) (v := ?_) (a' := ?_) #[true, true, true, true, true, true, true, true, false, false] rfl rfl (any_of HT_.out (by kernel_rfl)) (fun _ _ _ h => h) (Or.inl ⟨by rfl, ?_⟩) ?_ ?_
     rotate_left
     ·intro w'
      go_simp
      with_reducible rfl
     rotate_left
     ·simp only [Act.put, List.setIfInBounds_toArray, List.set_cons_zero, List.set_cons_succ, i64_w, i32_w]
      rfl
     refine one_ (i := 8) (N := none) #[true, true, true, true, true, true, true, true, true, false] rfl rfl (one_of HT_.out (by kernel_rfl)) (by decide) (fun K hK => ?_)
     have hs25 := cz BK102.out 0 (.int .u32 0)
     have hfs25 := blk_frozen BK102.out 0
     have hns25_0 := NB101_102.out
     have hms25_0 := NB102_101.out
     have hs26 := cz BK102.out 1 (.int .u32 0)
     have hfs26 := blk_frozen BK102.out 1
     have hns26_0 := NB101_102.out
     have hms26_0 := NB102_101.out
     refine skip_ (w1 := ?_) (by rfl) rfl ?_ ?_
     rotate_left
     ·go_simp
      rfl
     refine hK.out _ _ ⟨((cell_far (p := ⟨gb102, _, none⟩) NB101_102.out _).trans (((cell_far (p := ⟨gb102, _, none⟩) NB101_102.out _).trans (hHeld.1)))), ((cell_far (p := ⟨gb102, _, none⟩) NB101_102.out _).trans (((cell_far (p := ⟨gb102, _, none⟩) NB101_102.out _).trans (hHeld.2))))⟩ (fun hHeld => ?_)
     clear hK K
     refine pure_ (i := 9) (N := some 5) (v := ?_) (a' := ?_) #[true, true, true, true, true, true, true, true, true, true] rfl rfl (any_of HT_.out (by kernel_rfl)) (fun _ _ _ h => h) (Or.inl ⟨by rfl, ?_⟩) ?_ ?_
     rotate_left
     ·intro w'
      go_simp
      with_reducible rfl
     rotate_left
     ·simp only [Act.put, List.setIfInBounds_toArray, List.set_cons_zero, List.set_cons_succ, i64_w, i32_w]
      rfl
     refine done_ (done_of HT_.out (by kernel_rfl)) ?_
     try go_wp2
     refine bodyPost_ret (results_ct rfl _ _ gb102 73 #[.int .u32 t105, .int .u32 t106] (0, 0) _ rfl (by (with_reducible repeat (first | refine blk_drewN ?_ _ | refine blk_drew ?_ | refine blk_alloc ?_ _)); refine blk_put (cs := #[.int .u32 t105, .int .u32 0]) ?_ 1 _ rfl; (with_reducible repeat (first | refine blk_drewN ?_ _ | refine blk_drew ?_ | refine blk_alloc ?_ _)); refine blk_put (cs := #[.int .u32 0, .int .u32 0]) ?_ 0 _ rfl; (with_reducible repeat (first | refine blk_drewN ?_ _ | refine blk_drew ?_ | refine blk_alloc ?_ _)); exact BK102.out) Tryd.underlying73 rfl (by kernel_rfl)) rfl ?_
     exact ⟨te, tg2 HB.out GE101.out GE102.out⟩

end Go.Proofs.YtiphindialkmnaaDoor.X
end
