/- Texts that the proof rests on, part 5. -/
import Derived.Test.YtiphindialkmnaaDoorMTwice4
section
namespace Go.Proofs.YtiphindialkmnaaDoor.X
open Go.RowKit Go.Proofs.YtiphindialkmnaaDoorW.PrintWords Go.Proofs.YtiphindialkmnaaDoorW.PrintLast Go.Proofs.YtiphindialkmnaaDoorW.PrintMore
attribute [local go_sem] max2_int min2_int max_two min_two max_three min_three max_four min_four
set_option linter.unusedVariables false
set_option linter.unusedSimpArgs false

attribute [local go_sem high] eqA47
/-! ### valid_fits: function 80 -/
def valid_fits.f (k : Nat) (a0_0 : ByteArray) (l0_1 : List ByteArray) (l0_2 : List ByteArray) (l0_3 : List Int) (l0_4 : List Int) (l0_5 : List (S43)) (a1_0 : Int) (a1_1 : Int) (a1_2 : Int) : Option (Bool) := (valid_of.f a1_0 a1_1 a1_2).bind fun bt103 => (if bt103.1 = true then (if 0 ≤ a1_1 then (if a1_1 < (l0_3.length : Int) then ((isa_Decode.f k (rd l0_3 a1_1)).bind fun bt106 => (if a1_0 = 0 then (some (bt106.1 == 17 && (bt106.2.1 == 0 && (bt106.2.2.1 == 0 && (bt106.2.2.2.1 == 0 && (bt106.2.2.2.2.1 == 0)))))) else (if a1_0 = 7 then (some (bt106.1 == 17 && (bt106.2.1 == 0 && (bt106.2.2.1 == 0 && (bt106.2.2.2.1 == 0 && (bt106.2.2.2.2.1 == 0)))))) else (if bt106.1 = 2 then (some (bt106.2.2.2.2.1 == 0)) else (some false))))) else (none)) else (none)) else (if 0 ≤ a1_1 then (if a1_1 < (l0_4.length : Int) then (some ((rd l0_4 a1_1) == 0)) else (none)) else (none)))
theorem valid_fits.mono : ∀ a0 a1 a2 a3 a4 a5 a6 a7 a8 k, LeO (valid_fits.f k a0 a1 a2 a3 a4 a5 a6 a7 a8) (valid_fits.f (k + 1) a0 a1 a2 a3 a4 a5 a6 a7 a8) := by
 intro a0 a1 a2 a3 a4 a5 a6 a7 a8 k
 unfold valid_fits.f
 repeat' first
   | (with_reducible exact isa_Decode.mono _ _)
   | (with_reducible exact LeO.refl _)
   | (with_reducible exact LeO.none _)
   | (with_reducible refine LeO.ite ?_ ?_)
   | (with_reducible refine LeO.bind ?_ (fun _ => ?_))
   | exact isa_Decode.mono _ _
   | exact LeO.none _
   | refine LeO.ite ?_ ?_
   | refine LeO.bind ?_ (fun _ => ?_)
set_option maxHeartbeats 8000000 in
set_option maxRecDepth 100000 in
theorem valid_fits.calls (k : Nat) (a0_0 : ByteArray) (A0_1 : Option Addr) (c0_1 : Nat) (l0_1 : List ByteArray) (A0_2 : Option Addr) (c0_2 : Nat) (l0_2 : List ByteArray) (A0_3 : Option Addr) (c0_3 : Nat) (l0_3 : List Int) (A0_4 : Option Addr) (c0_4 : Nat) (l0_4 : List Int) (A0_5 : Option Addr) (c0_5 : Nat) (l0_5 : List (S43)) (a1_0 : Int) (a1_1 : Int) (a1_2 : Int) (r : Bool) (w : World) (hr0_1 : Kd.C Kd.string w A0_1 l0_1.length l0_1) (hc0_1 : l0_1.length ≤ c0_1) (hr0_2 : Kd.C Kd.string w A0_2 l0_2.length l0_2) (hc0_2 : l0_2.length ≤ c0_2) (hr0_3 : Kd.C (Kd.int .u32) w A0_3 l0_3.length l0_3) (hc0_3 : l0_3.length ≤ c0_3) (hr0_4 : Kd.C (Kd.int .u32) w A0_4 l0_4.length l0_4) (hc0_4 : l0_4.length ≤ c0_4) (hr0_5 : Kd.C k43 w A0_5 l0_5.length l0_5) (hc0_5 : l0_5.length ≤ c0_5) (h : valid_fits.f k a0_0 l0_1 l0_2 l0_3 l0_4 l0_5 a1_0 a1_1 a1_2 = some r) :
  Calls Tryd.prog 80 #[.agg #[.string a0_0, .slice A0_1 l0_1.length c0_1, .slice A0_2 l0_2.length c0_2, .slice A0_3 l0_3.length c0_3, .slice A0_4 l0_4.length c0_4, .slice A0_5 l0_5.length c0_5], .agg #[.int .u8 a1_0, .int .u16 a1_1, .int .u16 a1_2]] w fun e w' => e = .returned (.bool r) ∧ Below w.heap.size w w' := by
 have hfd123_0 : ∀ (z0 z1 : Value) (W : World), (Instr.field 123 (.agg #[z0, z1]) 0).run Tryd.prog W = .ok z0 W := fun _ _ _ => by kernel_rfl
 have hu26 := Tryd.underlying26
 have hu43 := Tryd.underlying43
 have hu47 := Tryd.underlying47
 have HR0_1 := Aside0.mk hr0_1
 have HC0_1 := Aside0.mk hc0_1
 clear hr0_1 hc0_1
 have HR0_2 := Aside0.mk hr0_2
 have HC0_2 := Aside0.mk hc0_2
 clear hr0_2 hc0_2
 have HR0_3 := Aside0.mk hr0_3
 have HC0_3 := Aside0.mk hc0_3
 clear hr0_3 hc0_3
 have HR0_4 := Aside0.mk hr0_4
 have HC0_4 := Aside0.mk hc0_4
 clear hr0_4 hc0_4
 have HR0_5 := Aside0.mk hr0_5
 have HC0_5 := Aside0.mk hc0_5
 clear hr0_5 hc0_5
 have HB := Aside0.mk (Below.refl w.heap.size w)
 have H : ((valid_of.f a1_0 a1_1 a1_2).bind fun bt103 => (if bt103.1 = true then (if 0 ≤ a1_1 then (if a1_1 < (l0_3.length : Int) then ((isa_Decode.f k (rd l0_3 a1_1)).bind fun bt106 => (if a1_0 = 0 then (some (bt106.1 == 17 && (bt106.2.1 == 0 && (bt106.2.2.1 == 0 && (bt106.2.2.2.1 == 0 && (bt106.2.2.2.2.1 == 0)))))) else (if a1_0 = 7 then (some (bt106.1 == 17 && (bt106.2.1 == 0 && (bt106.2.2.1 == 0 && (bt106.2.2.2.1 == 0 && (bt106.2.2.2.2.1 == 0)))))) else (if bt106.1 = 2 then (some (bt106.2.2.2.2.1 == 0)) else (some false))))) else (none)) else (none)) else (if 0 ≤ a1_1 then (if a1_1 < (l0_4.length : Int) then (some ((rd l0_4 a1_1) == 0)) else (none)) else (none)))) = some r := h
 clear h
 replace H := Option.bind_eq_some_iff.mp H
 obtain ⟨⟨t103, t104⟩, A30, H⟩ := H
 replace H : (if t103 = true then (if 0 ≤ a1_1 then (if a1_1 < (l0_3.length : Int) then ((isa_Decode.f k (rd l0_3 a1_1)).bind fun bt106 => (if a1_0 = 0 then (some (bt106.1 == 17 && (bt106.2.1 == 0 && (bt106.2.2.1 == 0 && (bt106.2.2.2.1 == 0 && (bt106.2.2.2.2.1 == 0)))))) else (if a1_0 = 7 then (some (bt106.1 == 17 && (bt106.2.1 == 0 && (bt106.2.2.1 == 0 && (bt106.2.2.2.1 == 0 && (bt106.2.2.2.2.1 == 0)))))) else (if bt106.1 = 2 then (some (bt106.2.2.2.2.1 == 0)) else (some false))))) else (none)) else (none)) else (if 0 ≤ a1_1 then (if a1_1 < (l0_4.length : Int) then (some ((rd l0_4 a1_1) == 0)) else (none)) else (none))) = some r := H
 have A3 := Aside0.mk A30
 clear A30
 by_cases c4 : t103 = true
 ·subst c4
  have H1 : (if 0 ≤ a1_1 then (if a1_1 < (l0_3.length : Int) then ((isa_Decode.f k (rd l0_3 a1_1)).bind fun bt106 => (if a1_0 = 0 then (some (bt106.1 == 17 && (bt106.2.1 == 0 && (bt106.2.2.1 == 0 && (bt106.2.2.2.1 == 0 && (bt106.2.2.2.2.1 == 0)))))) else (if a1_0 = 7 then (some (bt106.1 == 17 && (bt106.2.1 == 0 && (bt106.2.2.1 == 0 && (bt106.2.2.2.1 == 0 && (bt106.2.2.2.2.1 == 0)))))) else (if bt106.1 = 2 then (some (bt106.2.2.2.2.1 == 0)) else (some false))))) else (none)) else (none)) = some r := by rw [if_pos rfl] at H; exact H
  clear H
  have H := H1
  clear H1
  by_cases c5 : 0 ≤ a1_1
  ·rw [if_pos c5] at H
   have c5b0 : decide (0 ≤ a1_1) = true := decide_eq_true c5
   clear c5
   by_cases c6 : a1_1 < (l0_3.length : Int)
   ·rw [if_pos c6] at H
    have c6b0 : decide (a1_1 < (l0_3.length : Int)) = true := decide_eq_true c6
    clear c6
    replace H := Option.bind_eq_some_iff.mp H
    obtain ⟨⟨t106, t107, t108, t109, t110, t111⟩, A70, H⟩ := H
    replace H : (if a1_0 = 0 then (some (t106 == 17 && (t107 == 0 && (t108 == 0 && (t109 == 0 && (t110 == 0)))))) else (if a1_0 = 7 then (some (t106 == 17 && (t107 == 0 && (t108 == 0 && (t109 == 0 && (t110 == 0)))))) else (if t106 = 2 then (some (t110 == 0)) else (some false)))) = some r := H
    have A7 := Aside0.mk A70
    clear A70
    by_cases c8 : a1_0 = 0
    ·rw [if_pos c8] at H
     have c8b0 : (a1_0 == 0) = true := beq_iff_eq.mpr c8
     have c8b1 : (a1_0 != 0) = false := bne_eq_false_iff_eq.mpr c8
     clear c8
     obtain rfl := Option.some.inj H
     go_enter Tryd.func80, Tryd.ntmps80
     go_wp2_with (first | ((with_reducible refine gate_dst (N := 2) rfl ?_); refine box_event ?hg (N := 2) ?hd (cs := #[.string a0_0, .slice A0_1 l0_1.length c0_1, .slice A0_2 l0_2.length c0_2, .slice A0_3 l0_3.length c0_3, .slice A0_4 l0_4.length c0_4, .slice A0_5 l0_5.length c0_5]) (t := 26) ?hr ?_; (case hd => rfl); (case hg => rfl); (case hr => first | (go_simp; done) | (go_simp; rfl)); intro gb101 hg w9 hbox hb; have n0_ := Aside0.mk (below_step (tg HB.out) hb); have n1_ := Aside0.mk (hbox); have n2_ := Aside0.mk ((by rw [hg]; exact (below_size (tg HB.out)) : w.heap.size ≤ gb101)); have n3_ := Aside0.mk ((by rw [hg]; exact (below_size (tg HB.out)) : w.heap.size ≤ gb101)); clear HB; have HB := n0_; have BK101 := n1_; have GW101 := n2_; have GE101 := n3_; clear n0_ n1_ n2_ n3_; clear hb hbox hg) | ((with_reducible refine gate_dst (N := 3) rfl ?_); refine box_event ?hg (N := 3) ?hd (cs := #[.int .u8 a1_0, .int .u16 a1_1, .int .u16 a1_2]) (t := 43) ?hr ?_; (case hd => rfl); (case hg => rfl); (case hr => first | (go_simp; done) | (go_simp; rfl)); intro gb102 hg w10 hbox hb; have n0_ := ba BK101.out hb; have n1_ := Aside0.mk (below_step (tg1 HB.out GE101.out) hb); have n2_ := Aside0.mk (hbox); have n3_ := Aside0.mk ((by rw [hg]; exact (below_size (tg1 HB.out GE101.out)) : w.heap.size ≤ gb102)); have n4_ := Aside0.mk ((by rw [hg]; exact (below_size (tg1 HB.out GE101.out)) : w.heap.size ≤ gb102)); have n5_ := Aside0.mk ((by rw [hg]; exact Nat.ne_of_lt (blk_lt (g := gb101) (o := .cells #[.string a0_0, .slice A0_1 l0_1.length c0_1, .slice A0_2 l0_2.length c0_2, .slice A0_3 l0_3.length c0_3, .slice A0_4 l0_4.length c0_4, .slice A0_5 l0_5.length c0_5] 26 (0, 0)) (tb BK101.out)) : gb101 ≠ gb102)); have n6_ := Aside0.mk ((by rw [hg]; exact Nat.ne_of_gt (blk_lt (g := gb101) (o := .cells #[.string a0_0, .slice A0_1 l0_1.length c0_1, .slice A0_2 l0_2.length c0_2, .slice A0_3 l0_3.length c0_3, .slice A0_4 l0_4.length c0_4, .slice A0_5 l0_5.length c0_5] 26 (0, 0)) (tb BK101.out)) : gb102 ≠ gb101)); clear BK101; clear HB; have BK101 := n0_; have HB := n1_; have BK102 := n2_; have GW102 := n3_; have GE102 := n4_; have NB101_102 := n5_; have NB102_101 := n6_; clear n0_ n1_ n2_ n3_ n4_ n5_ n6_; clear hb hbox hg; have hnb11 := NB102_101.out; have hnc11 := NB101_102.out; have hcz12_0 := cz BK102.out 0 (.int .u8 a1_0); have hcz12_1 := cz BK102.out 1 (.int .u16 a1_1); have hcz12_2 := cz BK102.out 2 (.int .u16 a1_2); have hfz12_0 := blk_frozen BK102.out 0; have hfz12_1 := blk_frozen BK102.out 1; have hfz12_2 := blk_frozen BK102.out 2) | ((with_reducible refine gate_callee (f := 77) rfl ?_); refine goesL_ (some 8) rfl rfl Tryd.func77 (by kernel_rfl) rfl #[.agg #[.int .u8 a1_0, .int .u16 a1_1, .int .u16 a1_2]] rfl tm ?_; (with_reducible refine (valid_of.calls a1_0 a1_1 a1_2 true t104 _ A3.out).mono ?_); rintro e w13 ⟨rfl, hb⟩; refine ⟨_, rfl, ?_⟩; replace BK101 := ba BK101.out hb; replace BK102 := ba BK102.out hb; replace HB := Aside0.mk (below_step (tg2 HB.out GE101.out GE102.out) hb); (try clear hb); (try clear hb2); (try clear hk); (try clear hi); have hcz14_0 := cz BK101.out 0 (.string a0_0); have hcz14_1 := cz BK101.out 1 (.slice A0_1 l0_1.length c0_1); have hcz14_2 := cz BK101.out 2 (.slice A0_2 l0_2.length c0_2); have hcz14_3 := cz BK101.out 3 (.slice A0_3 l0_3.length c0_3); have hcz14_4 := cz BK101.out 4 (.slice A0_4 l0_4.length c0_4); have hcz14_5 := cz BK101.out 5 (.slice A0_5 l0_5.length c0_5); have hfz14_0 := blk_frozen BK101.out 0; have hfz14_1 := blk_frozen BK101.out 1; have hfz14_2 := blk_frozen BK101.out 2; have hfz14_3 := blk_frozen BK101.out 3; have hfz14_4 := blk_frozen BK101.out 4; have hfz14_5 := blk_frozen BK101.out 5; have hcz15_0 := cz BK102.out 0 (.int .u8 a1_0); have hcz15_1 := cz BK102.out 1 (.int .u16 a1_1); have hcz15_2 := cz BK102.out 2 (.int .u16 a1_2); have hfz15_0 := blk_frozen BK102.out 0; have hfz15_1 := blk_frozen BK102.out 1; have hfz15_2 := blk_frozen BK102.out 2; have p105 : 0 ≤ (a1_1 : Int) := of_decide_eq_true (by first | (with_reducible assumption) | assumption); have q105 : a1_1 < (l0_3.length : Int) := of_decide_eq_true (by first | (with_reducible assumption) | assumption); obtain ⟨ad105, e105, hx105_0⟩ := Kd.at_int HR0_3.out a1_1 p105 q105; cases e105; replace hx105_0 := (HB.out.cell (World.block_lt_of_cell? w _ hx105_0)).trans hx105_0; replace p105 := eq_true p105; replace q105 := eq_true q105) | ((with_reducible refine gate_callee (f := 21) rfl ?_); refine goesL_ (some 25) rfl rfl Tryd.func21 (by kernel_rfl) rfl #[.int .u32 (rd l0_3 a1_1)] rfl tm ?_; (with_reducible refine (isa_Decode.calls k (rd l0_3 a1_1) t106 t107 t108 t109 t110 t111 _ A7.out).mono ?_); rintro e w16 ⟨rfl, hb⟩; refine ⟨_, rfl, ?_⟩; replace BK101 := ba BK101.out hb; replace BK102 := ba BK102.out hb; replace HB := Aside0.mk (below_step (tg2 HB.out GE101.out GE102.out) hb); (try clear hb); (try clear hb2); (try clear hk); (try clear hi)) | ((with_reducible refine gate_dst (N := 5) rfl ?_); refine box_event ?hg (N := 5) ?hd (cs := #[.int .u8 0, .int .u8 0, .int .u8 0, .int .u8 0, .int .i32 0]) (t := 47) ?hr ?_; (case hd => rfl); (case hg => rfl); (case hr => first | (go_simp; done) | (go_simp; rfl)); intro gb112 hg w17 hbox hb; have n0_ := ba BK101.out hb; have n1_ := ba BK102.out hb; have n2_ := Aside0.mk (below_step (tg2 HB.out GE101.out GE102.out) hb); have n3_ := Aside0.mk (hbox); have n4_ := Aside0.mk ((by rw [hg]; exact (below_size (tg2 HB.out GE101.out GE102.out)) : w.heap.size ≤ gb112)); have n5_ := Aside0.mk ((by rw [hg]; exact (below_size (tg2 HB.out GE101.out GE102.out)) : w.heap.size ≤ gb112)); have n6_ := Aside0.mk ((by rw [hg]; exact Nat.ne_of_lt (blk_lt (g := gb101) (o := .cells #[.string a0_0, .slice A0_1 l0_1.length c0_1, .slice A0_2 l0_2.length c0_2, .slice (some ad105) l0_3.length c0_3, .slice A0_4 l0_4.length c0_4, .slice A0_5 l0_5.length c0_5] 26 (0, 0)) (tb BK101.out)) : gb101 ≠ gb112)); have n7_ := Aside0.mk ((by rw [hg]; exact Nat.ne_of_gt (blk_lt (g := gb101) (o := .cells #[.string a0_0, .slice A0_1 l0_1.length c0_1, .slice A0_2 l0_2.length c0_2, .slice (some ad105) l0_3.length c0_3, .slice A0_4 l0_4.length c0_4, .slice A0_5 l0_5.length c0_5] 26 (0, 0)) (tb BK101.out)) : gb112 ≠ gb101)); have n8_ := Aside0.mk ((by rw [hg]; exact Nat.ne_of_lt (blk_lt (g := gb102) (o := .cells #[.int .u8 a1_0, .int .u16 a1_1, .int .u16 a1_2] 43 (0, 0)) (tb BK102.out)) : gb102 ≠ gb112)); have n9_ := Aside0.mk ((by rw [hg]; exact Nat.ne_of_gt (blk_lt (g := gb102) (o := .cells #[.int .u8 a1_0, .int .u16 a1_1, .int .u16 a1_2] 43 (0, 0)) (tb BK102.out)) : gb112 ≠ gb102)); clear BK101; clear BK102; clear HB; have BK101 := n0_; have BK102 := n1_; have HB := n2_; have BK112 := n3_; have GW112 := n4_; have GE112 := n5_; have NB101_112 := n6_; have NB112_101 := n7_; have NB102_112 := n8_; have NB112_102 := n9_; clear n0_ n1_ n2_ n3_ n4_ n5_ n6_ n7_ n8_ n9_; clear hb hbox hg; have hnb18 := NB112_101.out; have hnc18 := NB101_112.out; have hnb19 := NB112_102.out; have hnc19 := NB102_112.out; have hcz20_0 := cz BK112.out 0 (.int .u8 0); have hcz20_1 := cz BK112.out 1 (.int .u8 0); have hcz20_2 := cz BK112.out 2 (.int .u8 0); have hcz20_3 := cz BK112.out 3 (.int .u8 0); have hcz20_4 := cz BK112.out 4 (.int .i32 0); have hfz20_0 := blk_frozen BK112.out 0; have hfz20_1 := blk_frozen BK112.out 1; have hfz20_2 := blk_frozen BK112.out 2; have hfz20_3 := blk_frozen BK112.out 3; have hfz20_4 := blk_frozen BK112.out 4; have hcz21_0 := cz BK102.out 0 (.int .u8 a1_0); have hcz21_1 := cz BK102.out 1 (.int .u16 a1_1); have hcz21_2 := cz BK102.out 2 (.int .u16 a1_2); have hfz21_0 := blk_frozen BK102.out 0; have hfz21_1 := blk_frozen BK102.out 1; have hfz21_2 := blk_frozen BK102.out 2))
     go_ret
     exact ⟨by first | rfl | (simp [errW_none, errW_some] <;> rfl) | (simp [*, errW_none, errW_some] <;> rfl), tg3 HB.out GE101.out GE102.out GE112.out⟩
    ·rw [if_neg c8] at H
     have c8b0 : (a1_0 == 0) = false := beq_eq_false_iff_ne.mpr c8
     have c8b1 : (a1_0 != 0) = true := bne_iff_ne.mpr c8
     by_cases c22 : a1_0 = 7
     ·rw [if_pos c22] at H
      have c22b0 : (a1_0 == 7) = true := beq_iff_eq.mpr c22
      have c22b1 : (a1_0 != 7) = false := bne_eq_false_iff_eq.mpr c22
      clear c22
      obtain rfl := Option.some.inj H
      go_enter Tryd.func80, Tryd.ntmps80
      go_wp2_with (first | ((with_reducible refine gate_dst (N := 2) rfl ?_); refine box_event ?hg (N := 2) ?hd (cs := #[.string a0_0, .slice A0_1 l0_1.length c0_1, .slice A0_2 l0_2.length c0_2, .slice A0_3 l0_3.length c0_3, .slice A0_4 l0_4.length c0_4, .slice A0_5 l0_5.length c0_5]) (t := 26) ?hr ?_; (case hd => rfl); (case hg => rfl); (case hr => first | (go_simp; done) | (go_simp; rfl)); intro gb101 hg w23 hbox hb; have n0_ := Aside0.mk (below_step (tg HB.out) hb); have n1_ := Aside0.mk (hbox); have n2_ := Aside0.mk ((by rw [hg]; exact (below_size (tg HB.out)) : w.heap.size ≤ gb101)); have n3_ := Aside0.mk ((by rw [hg]; exact (below_size (tg HB.out)) : w.heap.size ≤ gb101)); clear HB; have HB := n0_; have BK101 := n1_; have GW101 := n2_; have GE101 := n3_; clear n0_ n1_ n2_ n3_; clear hb hbox hg) | ((with_reducible refine gate_dst (N := 3) rfl ?_); refine box_event ?hg (N := 3) ?hd (cs := #[.int .u8 a1_0, .int .u16 a1_1, .int .u16 a1_2]) (t := 43) ?hr ?_; (case hd => rfl); (case hg => rfl); (case hr => first | (go_simp; done) | (go_simp; rfl)); intro gb102 hg w24 hbox hb; have n0_ := ba BK101.out hb; have n1_ := Aside0.mk (below_step (tg1 HB.out GE101.out) hb); have n2_ := Aside0.mk (hbox); have n3_ := Aside0.mk ((by rw [hg]; exact (below_size (tg1 HB.out GE101.out)) : w.heap.size ≤ gb102)); have n4_ := Aside0.mk ((by rw [hg]; exact (below_size (tg1 HB.out GE101.out)) : w.heap.size ≤ gb102)); have n5_ := Aside0.mk ((by rw [hg]; exact Nat.ne_of_lt (blk_lt (g := gb101) (o := .cells #[.string a0_0, .slice A0_1 l0_1.length c0_1, .slice A0_2 l0_2.length c0_2, .slice A0_3 l0_3.length c0_3, .slice A0_4 l0_4.length c0_4, .slice A0_5 l0_5.length c0_5] 26 (0, 0)) (tb BK101.out)) : gb101 ≠ gb102)); have n6_ := Aside0.mk ((by rw [hg]; exact Nat.ne_of_gt (blk_lt (g := gb101) (o := .cells #[.string a0_0, .slice A0_1 l0_1.length c0_1, .slice A0_2 l0_2.length c0_2, .slice A0_3 l0_3.length c0_3, .slice A0_4 l0_4.length c0_4, .slice A0_5 l0_5.length c0_5] 26 (0, 0)) (tb BK101.out)) : gb102 ≠ gb101)); clear BK101; clear HB; have BK101 := n0_; have HB := n1_; have BK102 := n2_; have GW102 := n3_; have GE102 := n4_; have NB101_102 := n5_; have NB102_101 := n6_; clear n0_ n1_ n2_ n3_ n4_ n5_ n6_; clear hb hbox hg; have hnb25 := NB102_101.out; have hnc25 := NB101_102.out; have hcz26_0 := cz BK102.out 0 (.int .u8 a1_0); have hcz26_1 := cz BK102.out 1 (.int .u16 a1_1); have hcz26_2 := cz BK102.out 2 (.int .u16 a1_2); have hfz26_0 := blk_frozen BK102.out 0; have hfz26_1 := blk_frozen BK102.out 1; have hfz26_2 := blk_frozen BK102.out 2) | ((with_reducible refine gate_callee (f := 77) rfl ?_); refine goesL_ (some 8) rfl rfl Tryd.func77 (by kernel_rfl) rfl #[.agg #[.int .u8 a1_0, .int .u16 a1_1, .int .u16 a1_2]] rfl tm ?_; (with_reducible refine (valid_of.calls a1_0 a1_1 a1_2 true t104 _ A3.out).mono ?_); rintro e w27 ⟨rfl, hb⟩; refine ⟨_, rfl, ?_⟩; replace BK101 := ba BK101.out hb; replace BK102 := ba BK102.out hb; replace HB := Aside0.mk (below_step (tg2 HB.out GE101.out GE102.out) hb); (try clear hb); (try clear hb2); (try clear hk); (try clear hi); have hcz28_0 := cz BK101.out 0 (.string a0_0); have hcz28_1 := cz BK101.out 1 (.slice A0_1 l0_1.length c0_1); have hcz28_2 := cz BK101.out 2 (.slice A0_2 l0_2.length c0_2); have hcz28_3 := cz BK101.out 3 (.slice A0_3 l0_3.length c0_3); have hcz28_4 := cz BK101.out 4 (.slice A0_4 l0_4.length c0_4); have hcz28_5 := cz BK101.out 5 (.slice A0_5 l0_5.length c0_5); have hfz28_0 := blk_frozen BK101.out 0; have hfz28_1 := blk_frozen BK101.out 1; have hfz28_2 := blk_frozen BK101.out 2; have hfz28_3 := blk_frozen BK101.out 3; have hfz28_4 := blk_frozen BK101.out 4; have hfz28_5 := blk_frozen BK101.out 5; have hcz29_0 := cz BK102.out 0 (.int .u8 a1_0); have hcz29_1 := cz BK102.out 1 (.int .u16 a1_1); have hcz29_2 := cz BK102.out 2 (.int .u16 a1_2); have hfz29_0 := blk_frozen BK102.out 0; have hfz29_1 := blk_frozen BK102.out 1; have hfz29_2 := blk_frozen BK102.out 2; have p105 : 0 ≤ (a1_1 : Int) := of_decide_eq_true (by first | (with_reducible assumption) | assumption); have q105 : a1_1 < (l0_3.length : Int) := of_decide_eq_true (by first | (with_reducible assumption) | assumption); obtain ⟨ad105, e105, hx105_0⟩ := Kd.at_int HR0_3.out a1_1 p105 q105; cases e105; replace hx105_0 := (HB.out.cell (World.block_lt_of_cell? w _ hx105_0)).trans hx105_0; replace p105 := eq_true p105; replace q105 := eq_true q105) | ((with_reducible refine gate_callee (f := 21) rfl ?_); refine goesL_ (some 25) rfl rfl Tryd.func21 (by kernel_rfl) rfl #[.int .u32 (rd l0_3 a1_1)] rfl tm ?_; (with_reducible refine (isa_Decode.calls k (rd l0_3 a1_1) t106 t107 t108 t109 t110 t111 _ A7.out).mono ?_); rintro e w30 ⟨rfl, hb⟩; refine ⟨_, rfl, ?_⟩; replace BK101 := ba BK101.out hb; replace BK102 := ba BK102.out hb; replace HB := Aside0.mk (below_step (tg2 HB.out GE101.out GE102.out) hb); (try clear hb); (try clear hb2); (try clear hk); (try clear hi)) | ((with_reducible refine gate_dst (N := 5) rfl ?_); refine box_event ?hg (N := 5) ?hd (cs := #[.int .u8 0, .int .u8 0, .int .u8 0, .int .u8 0, .int .i32 0]) (t := 47) ?hr ?_; (case hd => rfl); (case hg => rfl); (case hr => first | (go_simp; done) | (go_simp; rfl)); intro gb112 hg w31 hbox hb; have n0_ := ba BK101.out hb; have n1_ := ba BK102.out hb; have n2_ := Aside0.mk (below_step (tg2 HB.out GE101.out GE102.out) hb); have n3_ := Aside0.mk (hbox); have n4_ := Aside0.mk ((by rw [hg]; exact (below_size (tg2 HB.out GE101.out GE102.out)) : w.heap.size ≤ gb112)); have n5_ := Aside0.mk ((by rw [hg]; exact (below_size (tg2 HB.out GE101.out GE102.out)) : w.heap.size ≤ gb112)); have n6_ := Aside0.mk ((by rw [hg]; exact Nat.ne_of_lt (blk_lt (g := gb101) (o := .cells #[.string a0_0, .slice A0_1 l0_1.length c0_1, .slice A0_2 l0_2.length c0_2, .slice (some ad105) l0_3.length c0_3, .slice A0_4 l0_4.length c0_4, .slice A0_5 l0_5.length c0_5] 26 (0, 0)) (tb BK101.out)) : gb101 ≠ gb112)); have n7_ := Aside0.mk ((by rw [hg]; exact Nat.ne_of_gt (blk_lt (g := gb101) (o := .cells #[.string a0_0, .slice A0_1 l0_1.length c0_1, .slice A0_2 l0_2.length c0_2, .slice (some ad105) l0_3.length c0_3, .slice A0_4 l0_4.length c0_4, .slice A0_5 l0_5.length c0_5] 26 (0, 0)) (tb BK101.out)) : gb112 ≠ gb101)); have n8_ := Aside0.mk ((by rw [hg]; exact Nat.ne_of_lt (blk_lt (g := gb102) (o := .cells #[.int .u8 a1_0, .int .u16 a1_1, .int .u16 a1_2] 43 (0, 0)) (tb BK102.out)) : gb102 ≠ gb112)); have n9_ := Aside0.mk ((by rw [hg]; exact Nat.ne_of_gt (blk_lt (g := gb102) (o := .cells #[.int .u8 a1_0, .int .u16 a1_1, .int .u16 a1_2] 43 (0, 0)) (tb BK102.out)) : gb112 ≠ gb102)); clear BK101; clear BK102; clear HB; have BK101 := n0_; have BK102 := n1_; have HB := n2_; have BK112 := n3_; have GW112 := n4_; have GE112 := n5_; have NB101_112 := n6_; have NB112_101 := n7_; have NB102_112 := n8_; have NB112_102 := n9_; clear n0_ n1_ n2_ n3_ n4_ n5_ n6_ n7_ n8_ n9_; clear hb hbox hg; have hnb32 := NB112_101.out; have hnc32 := NB101_112.out; have hnb33 := NB112_102.out; have hnc33 := NB102_112.out; have hcz34_0 := cz BK112.out 0 (.int .u8 0); have hcz34_1 := cz BK112.out 1 (.int .u8 0); have hcz34_2 := cz BK112.out 2 (.int .u8 0); have hcz34_3 := cz BK112.out 3 (.int .u8 0); have hcz34_4 := cz BK112.out 4 (.int .i32 0); have hfz34_0 := blk_frozen BK112.out 0; have hfz34_1 := blk_frozen BK112.out 1; have hfz34_2 := blk_frozen BK112.out 2; have hfz34_3 := blk_frozen BK112.out 3; have hfz34_4 := blk_frozen BK112.out 4; have hcz35_0 := cz BK102.out 0 (.int .u8 a1_0); have hcz35_1 := cz BK102.out 1 (.int .u16 a1_1); have hcz35_2 := cz BK102.out 2 (.int .u16 a1_2); have hfz35_0 := blk_frozen BK102.out 0; have hfz35_1 := blk_frozen BK102.out 1; have hfz35_2 := blk_frozen BK102.out 2))
      go_ret
      exact ⟨by first | rfl | (simp [errW_none, errW_some] <;> rfl) | (simp [*, errW_none, errW_some] <;> rfl), tg3 HB.out GE101.out GE102.out GE112.out⟩
     ·rw [if_neg c22] at H
      have c22b0 : (a1_0 == 7) = false := beq_eq_false_iff_ne.mpr c22
      have c22b1 : (a1_0 != 7) = true := bne_iff_ne.mpr c22
      by_cases c36 : t106 = 2
      ·rw [if_pos c36] at H
       have c36b0 : (t106 == 2) = true := beq_iff_eq.mpr c36
       have c36b1 : (t106 != 2) = false := bne_eq_false_iff_eq.mpr c36
       clear c36
       obtain rfl := Option.some.inj H
       go_enter Tryd.func80, Tryd.ntmps80
       go_wp2_with (first | ((with_reducible refine gate_dst (N := 2) rfl ?_); refine box_event ?hg (N := 2) ?hd (cs := #[.string a0_0, .slice A0_1 l0_1.length c0_1, .slice A0_2 l0_2.length c0_2, .slice A0_3 l0_3.length c0_3, .slice A0_4 l0_4.length c0_4, .slice A0_5 l0_5.length c0_5]) (t := 26) ?hr ?_; (case hd => rfl); (case hg => rfl); (case hr => first | (go_simp; done) | (go_simp; rfl)); intro gb101 hg w37 hbox hb; have n0_ := Aside0.mk (below_step (tg HB.out) hb); have n1_ := Aside0.mk (hbox); have n2_ := Aside0.mk ((by rw [hg]; exact (below_size (tg HB.out)) : w.heap.size ≤ gb101)); have n3_ := Aside0.mk ((by rw [hg]; exact (below_size (tg HB.out)) : w.heap.size ≤ gb101)); clear HB; have HB := n0_; have BK101 := n1_; have GW101 := n2_; have GE101 := n3_; clear n0_ n1_ n2_ n3_; clear hb hbox hg) | ((with_reducible refine gate_dst (N := 3) rfl ?_); refine box_event ?hg (N := 3) ?hd (cs := #[.int .u8 a1_0, .int .u16 a1_1, .int .u16 a1_2]) (t := 43) ?hr ?_; (case hd => rfl); (case hg => rfl); (case hr => first | (go_simp; done) | (go_simp; rfl)); intro gb102 hg w38 hbox hb; have n0_ := ba BK101.out hb; have n1_ := Aside0.mk (below_step (tg1 HB.out GE101.out) hb); have n2_ := Aside0.mk (hbox); have n3_ := Aside0.mk ((by rw [hg]; exact (below_size (tg1 HB.out GE101.out)) : w.heap.size ≤ gb102)); have n4_ := Aside0.mk ((by rw [hg]; exact (below_size (tg1 HB.out GE101.out)) : w.heap.size ≤ gb102)); have n5_ := Aside0.mk ((by rw [hg]; exact Nat.ne_of_lt (blk_lt (g := gb101) (o := .cells #[.string a0_0, .slice A0_1 l0_1.length c0_1, .slice A0_2 l0_2.length c0_2, .slice A0_3 l0_3.length c0_3, .slice A0_4 l0_4.length c0_4, .slice A0_5 l0_5.length c0_5] 26 (0, 0)) (tb BK101.out)) : gb101 ≠ gb102)); have n6_ := Aside0.mk ((by rw [hg]; exact Nat.ne_of_gt (blk_lt (g := gb101) (o := .cells #[.string a0_0, .slice A0_1 l0_1.length c0_1, .slice A0_2 l0_2.length c0_2, .slice A0_3 l0_3.length c0_3, .slice A0_4 l0_4.length c0_4, .slice A0_5 l0_5.length c0_5] 26 (0, 0)) (tb BK101.out)) : gb102 ≠ gb101)); clear BK101; clear HB; have BK101 := n0_; have HB := n1_; have BK102 := n2_; have GW102 := n3_; have GE102 := n4_; have NB101_102 := n5_; have NB102_101 := n6_; clear n0_ n1_ n2_ n3_ n4_ n5_ n6_; clear hb hbox hg; have hnb39 := NB102_101.out; have hnc39 := NB101_102.out; have hcz40_0 := cz BK102.out 0 (.int .u8 a1_0); have hcz40_1 := cz BK102.out 1 (.int .u16 a1_1); have hcz40_2 := cz BK102.out 2 (.int .u16 a1_2); have hfz40_0 := blk_frozen BK102.out 0; have hfz40_1 := blk_frozen BK102.out 1; have hfz40_2 := blk_frozen BK102.out 2) | ((with_reducible refine gate_callee (f := 77) rfl ?_); refine goesL_ (some 8) rfl rfl Tryd.func77 (by kernel_rfl) rfl #[.agg #[.int .u8 a1_0, .int .u16 a1_1, .int .u16 a1_2]] rfl tm ?_; (with_reducible refine (valid_of.calls a1_0 a1_1 a1_2 true t104 _ A3.out).mono ?_); rintro e w41 ⟨rfl, hb⟩; refine ⟨_, rfl, ?_⟩; replace BK101 := ba BK101.out hb; replace BK102 := ba BK102.out hb; replace HB := Aside0.mk (below_step (tg2 HB.out GE101.out GE102.out) hb); (try clear hb); (try clear hb2); (try clear hk); (try clear hi); have hcz42_0 := cz BK101.out 0 (.string a0_0); have hcz42_1 := cz BK101.out 1 (.slice A0_1 l0_1.length c0_1); have hcz42_2 := cz BK101.out 2 (.slice A0_2 l0_2.length c0_2); have hcz42_3 := cz BK101.out 3 (.slice A0_3 l0_3.length c0_3); have hcz42_4 := cz BK101.out 4 (.slice A0_4 l0_4.length c0_4); have hcz42_5 := cz BK101.out 5 (.slice A0_5 l0_5.length c0_5); have hfz42_0 := blk_frozen BK101.out 0; have hfz42_1 := blk_frozen BK101.out 1; have hfz42_2 := blk_frozen BK101.out 2; have hfz42_3 := blk_frozen BK101.out 3; have hfz42_4 := blk_frozen BK101.out 4; have hfz42_5 := blk_frozen BK101.out 5; have hcz43_0 := cz BK102.out 0 (.int .u8 a1_0); have hcz43_1 := cz BK102.out 1 (.int .u16 a1_1); have hcz43_2 := cz BK102.out 2 (.int .u16 a1_2); have hfz43_0 := blk_frozen BK102.out 0; have hfz43_1 := blk_frozen BK102.out 1; have hfz43_2 := blk_frozen BK102.out 2; have p105 : 0 ≤ (a1_1 : Int) := of_decide_eq_true (by first | (with_reducible assumption) | assumption); have q105 : a1_1 < (l0_3.length : Int) := of_decide_eq_true (by first | (with_reducible assumption) | assumption); obtain ⟨ad105, e105, hx105_0⟩ := Kd.at_int HR0_3.out a1_1 p105 q105; cases e105; replace hx105_0 := (HB.out.cell (World.block_lt_of_cell? w _ hx105_0)).trans hx105_0; replace p105 := eq_true p105; replace q105 := eq_true q105) | ((with_reducible refine gate_callee (f := 21) rfl ?_); refine goesL_ (some 25) rfl rfl Tryd.func21 (by kernel_rfl) rfl #[.int .u32 (rd l0_3 a1_1)] rfl tm ?_; (with_reducible refine (isa_Decode.calls k (rd l0_3 a1_1) t106 t107 t108 t109 t110 t111 _ A7.out).mono ?_); rintro e w44 ⟨rfl, hb⟩; refine ⟨_, rfl, ?_⟩; replace BK101 := ba BK101.out hb; replace BK102 := ba BK102.out hb; replace HB := Aside0.mk (below_step (tg2 HB.out GE101.out GE102.out) hb); (try clear hb); (try clear hb2); (try clear hk); (try clear hi)) | ((with_reducible refine gate_dst (N := 5) rfl ?_); refine box_event ?hg (N := 5) ?hd (cs := #[.int .u8 0, .int .u8 0, .int .u8 0, .int .u8 0, .int .i32 0]) (t := 47) ?hr ?_; (case hd => rfl); (case hg => rfl); (case hr => first | (go_simp; done) | (go_simp; rfl)); intro gb112 hg w45 hbox hb; have n0_ := ba BK101.out hb; have n1_ := ba BK102.out hb; have n2_ := Aside0.mk (below_step (tg2 HB.out GE101.out GE102.out) hb); have n3_ := Aside0.mk (hbox); have n4_ := Aside0.mk ((by rw [hg]; exact (below_size (tg2 HB.out GE101.out GE102.out)) : w.heap.size ≤ gb112)); have n5_ := Aside0.mk ((by rw [hg]; exact (below_size (tg2 HB.out GE101.out GE102.out)) : w.heap.size ≤ gb112)); have n6_ := Aside0.mk ((by rw [hg]; exact Nat.ne_of_lt (blk_lt (g := gb101) (o := .cells #[.string a0_0, .slice A0_1 l0_1.length c0_1, .slice A0_2 l0_2.length c0_2, .slice (some ad105) l0_3.length c0_3, .slice A0_4 l0_4.length c0_4, .slice A0_5 l0_5.length c0_5] 26 (0, 0)) (tb BK101.out)) : gb101 ≠ gb112)); have n7_ := Aside0.mk ((by rw [hg]; exact Nat.ne_of_gt (blk_lt (g := gb101) (o := .cells #[.string a0_0, .slice A0_1 l0_1.length c0_1, .slice A0_2 l0_2.length c0_2, .slice (some ad105) l0_3.length c0_3, .slice A0_4 l0_4.length c0_4, .slice A0_5 l0_5.length c0_5] 26 (0, 0)) (tb BK101.out)) : gb112 ≠ gb101)); have n8_ := Aside0.mk ((by rw [hg]; exact Nat.ne_of_lt (blk_lt (g := gb102) (o := .cells #[.int .u8 a1_0, .int .u16 a1_1, .int .u16 a1_2] 43 (0, 0)) (tb BK102.out)) : gb102 ≠ gb112)); have n9_ := Aside0.mk ((by rw [hg]; exact Nat.ne_of_gt (blk_lt (g := gb102) (o := .cells #[.int .u8 a1_0, .int .u16 a1_1, .int .u16 a1_2] 43 (0, 0)) (tb BK102.out)) : gb112 ≠ gb102)); clear BK101; clear BK102; clear HB; have BK101 := n0_; have BK102 := n1_; have HB := n2_; have BK112 := n3_; have GW112 := n4_; have GE112 := n5_; have NB101_112 := n6_; have NB112_101 := n7_; have NB102_112 := n8_; have NB112_102 := n9_; clear n0_ n1_ n2_ n3_ n4_ n5_ n6_ n7_ n8_ n9_; clear hb hbox hg; have hnb46 := NB112_101.out; have hnc46 := NB101_112.out; have hnb47 := NB112_102.out; have hnc47 := NB102_112.out; have hcz48_0 := cz BK112.out 0 (.int .u8 0); have hcz48_1 := cz BK112.out 1 (.int .u8 0); have hcz48_2 := cz BK112.out 2 (.int .u8 0); have hcz48_3 := cz BK112.out 3 (.int .u8 0); have hcz48_4 := cz BK112.out 4 (.int .i32 0); have hfz48_0 := blk_frozen BK112.out 0; have hfz48_1 := blk_frozen BK112.out 1; have hfz48_2 := blk_frozen BK112.out 2; have hfz48_3 := blk_frozen BK112.out 3; have hfz48_4 := blk_frozen BK112.out 4; have hcz49_0 := cz BK102.out 0 (.int .u8 a1_0); have hcz49_1 := cz BK102.out 1 (.int .u16 a1_1); have hcz49_2 := cz BK102.out 2 (.int .u16 a1_2); have hfz49_0 := blk_frozen BK102.out 0; have hfz49_1 := blk_frozen BK102.out 1; have hfz49_2 := blk_frozen BK102.out 2))
       go_ret
       exact ⟨by first | rfl | (simp [errW_none, errW_some] <;> rfl) | (simp [*, errW_none, errW_some] <;> rfl), tg3 HB.out GE101.out GE102.out GE112.out⟩
      ·rw [if_neg c36] at H
       have c36b0 : (t106 == 2) = false := beq_eq_false_iff_ne.mpr c36
       have c36b1 : (t106 != 2) = true := bne_iff_ne.mpr c36
       obtain rfl := Option.some.inj H
       go_enter Tryd.func80, Tryd.ntmps80
       go_wp2_with (first | ((with_reducible refine gate_dst (N := 2) rfl ?_); refine box_event ?hg (N := 2) ?hd (cs := #[.string a0_0, .slice A0_1 l0_1.length c0_1, .slice A0_2 l0_2.length c0_2, .slice A0_3 l0_3.length c0_3, .slice A0_4 l0_4.length c0_4, .slice A0_5 l0_5.length c0_5]) (t := 26) ?hr ?_; (case hd => rfl); (case hg => rfl); (case hr => first | (go_simp; done) | (go_simp; rfl)); intro gb101 hg w50 hbox hb; have n0_ := Aside0.mk (below_step (tg HB.out) hb); have n1_ := Aside0.mk (hbox); have n2_ := Aside0.mk ((by rw [hg]; exact (below_size (tg HB.out)) : w.heap.size ≤ gb101)); have n3_ := Aside0.mk ((by rw [hg]; exact (below_size (tg HB.out)) : w.heap.size ≤ gb101)); clear HB; have HB := n0_; have BK101 := n1_; have GW101 := n2_; have GE101 := n3_; clear n0_ n1_ n2_ n3_; clear hb hbox hg) | ((with_reducible refine gate_dst (N := 3) rfl ?_); refine box_event ?hg (N := 3) ?hd (cs := #[.int .u8 a1_0, .int .u16 a1_1, .int .u16 a1_2]) (t := 43) ?hr ?_; (case hd => rfl); (case hg => rfl); (case hr => first | (go_simp; done) | (go_simp; rfl)); intro gb102 hg w51 hbox hb; have n0_ := ba BK101.out hb; have n1_ := Aside0.mk (below_step (tg1 HB.out GE101.out) hb); have n2_ := Aside0.mk (hbox); have n3_ := Aside0.mk ((by rw [hg]; exact (below_size (tg1 HB.out GE101.out)) : w.heap.size ≤ gb102)); have n4_ := Aside0.mk ((by rw [hg]; exact (below_size (tg1 HB.out GE101.out)) : w.heap.size ≤ gb102)); have n5_ := Aside0.mk ((by rw [hg]; exact Nat.ne_of_lt (blk_lt (g := gb101) (o := .cells #[.string a0_0, .slice A0_1 l0_1.length c0_1, .slice A0_2 l0_2.length c0_2, .slice A0_3 l0_3.length c0_3, .slice A0_4 l0_4.length c0_4, .slice A0_5 l0_5.length c0_5] 26 (0, 0)) (tb BK101.out)) : gb101 ≠ gb102)); have n6_ := Aside0.mk ((by rw [hg]; exact Nat.ne_of_gt (blk_lt (g := gb101) (o := .cells #[.string a0_0, .slice A0_1 l0_1.length c0_1, .slice A0_2 l0_2.length c0_2, .slice A0_3 l0_3.length c0_3, .slice A0_4 l0_4.length c0_4, .slice A0_5 l0_5.length c0_5] 26 (0, 0)) (tb BK101.out)) : gb102 ≠ gb101)); clear BK101; clear HB; have BK101 := n0_; have HB := n1_; have BK102 := n2_; have GW102 := n3_; have GE102 := n4_; have NB101_102 := n5_; have NB102_101 := n6_; clear n0_ n1_ n2_ n3_ n4_ n5_ n6_; clear hb hbox hg; have hnb52 := NB102_101.out; have hnc52 := NB101_102.out; have hcz53_0 := cz BK102.out 0 (.int .u8 a1_0); have hcz53_1 := cz BK102.out 1 (.int .u16 a1_1); have hcz53_2 := cz BK102.out 2 (.int .u16 a1_2); have hfz53_0 := blk_frozen BK102.out 0; have hfz53_1 := blk_frozen BK102.out 1; have hfz53_2 := blk_frozen BK102.out 2) | ((with_reducible refine gate_callee (f := 77) rfl ?_); refine goesL_ (some 8) rfl rfl Tryd.func77 (by kernel_rfl) rfl #[.agg #[.int .u8 a1_0, .int .u16 a1_1, .int .u16 a1_2]] rfl tm ?_; (with_reducible refine (valid_of.calls a1_0 a1_1 a1_2 true t104 _ A3.out).mono ?_); rintro e w54 ⟨rfl, hb⟩; refine ⟨_, rfl, ?_⟩; replace BK101 := ba BK101.out hb; replace BK102 := ba BK102.out hb; replace HB := Aside0.mk (below_step (tg2 HB.out GE101.out GE102.out) hb); (try clear hb); (try clear hb2); (try clear hk); (try clear hi); have hcz55_0 := cz BK101.out 0 (.string a0_0); have hcz55_1 := cz BK101.out 1 (.slice A0_1 l0_1.length c0_1); have hcz55_2 := cz BK101.out 2 (.slice A0_2 l0_2.length c0_2); have hcz55_3 := cz BK101.out 3 (.slice A0_3 l0_3.length c0_3); have hcz55_4 := cz BK101.out 4 (.slice A0_4 l0_4.length c0_4); have hcz55_5 := cz BK101.out 5 (.slice A0_5 l0_5.length c0_5); have hfz55_0 := blk_frozen BK101.out 0; have hfz55_1 := blk_frozen BK101.out 1; have hfz55_2 := blk_frozen BK101.out 2; have hfz55_3 := blk_frozen BK101.out 3; have hfz55_4 := blk_frozen BK101.out 4; have hfz55_5 := blk_frozen BK101.out 5; have hcz56_0 := cz BK102.out 0 (.int .u8 a1_0); have hcz56_1 := cz BK102.out 1 (.int .u16 a1_1); have hcz56_2 := cz BK102.out 2 (.int .u16 a1_2); have hfz56_0 := blk_frozen BK102.out 0; have hfz56_1 := blk_frozen BK102.out 1; have hfz56_2 := blk_frozen BK102.out 2; have p105 : 0 ≤ (a1_1 : Int) := of_decide_eq_true (by first | (with_reducible assumption) | assumption); have q105 : a1_1 < (l0_3.length : Int) := of_decide_eq_true (by first | (with_reducible assumption) | assumption); obtain ⟨ad105, e105, hx105_0⟩ := Kd.at_int HR0_3.out a1_1 p105 q105; cases e105; replace hx105_0 := (HB.out.cell (World.block_lt_of_cell? w _ hx105_0)).trans hx105_0; replace p105 := eq_true p105; replace q105 := eq_true q105) | ((with_reducible refine gate_callee (f := 21) rfl ?_); refine goesL_ (some 25) rfl rfl Tryd.func21 (by kernel_rfl) rfl #[.int .u32 (rd l0_3 a1_1)] rfl tm ?_; (with_reducible refine (isa_Decode.calls k (rd l0_3 a1_1) t106 t107 t108 t109 t110 t111 _ A7.out).mono ?_); rintro e w57 ⟨rfl, hb⟩; refine ⟨_, rfl, ?_⟩; replace BK101 := ba BK101.out hb; replace BK102 := ba BK102.out hb; replace HB := Aside0.mk (below_step (tg2 HB.out GE101.out GE102.out) hb); (try clear hb); (try clear hb2); (try clear hk); (try clear hi)) | ((with_reducible refine gate_dst (N := 5) rfl ?_); refine box_event ?hg (N := 5) ?hd (cs := #[.int .u8 0, .int .u8 0, .int .u8 0, .int .u8 0, .int .i32 0]) (t := 47) ?hr ?_; (case hd => rfl); (case hg => rfl); (case hr => first | (go_simp; done) | (go_simp; rfl)); intro gb112 hg w58 hbox hb; have n0_ := ba BK101.out hb; have n1_ := ba BK102.out hb; have n2_ := Aside0.mk (below_step (tg2 HB.out GE101.out GE102.out) hb); have n3_ := Aside0.mk (hbox); have n4_ := Aside0.mk ((by rw [hg]; exact (below_size (tg2 HB.out GE101.out GE102.out)) : w.heap.size ≤ gb112)); have n5_ := Aside0.mk ((by rw [hg]; exact (below_size (tg2 HB.out GE101.out GE102.out)) : w.heap.size ≤ gb112)); have n6_ := Aside0.mk ((by rw [hg]; exact Nat.ne_of_lt (blk_lt (g := gb101) (o := .cells #[.string a0_0, .slice A0_1 l0_1.length c0_1, .slice A0_2 l0_2.length c0_2, .slice (some ad105) l0_3.length c0_3, .slice A0_4 l0_4.length c0_4, .slice A0_5 l0_5.length c0_5] 26 (0, 0)) (tb BK101.out)) : gb101 ≠ gb112)); have n7_ := Aside0.mk ((by rw [hg]; exact Nat.ne_of_gt (blk_lt (g := gb101) (o := .cells #[.string a0_0, .slice A0_1 l0_1.length c0_1, .slice A0_2 l0_2.length c0_2, .slice (some ad105) l0_3.length c0_3, .slice A0_4 l0_4.length c0_4, .slice A0_5 l0_5.length c0_5] 26 (0, 0)) (tb BK101.out)) : gb112 ≠ gb101)); have n8_ := Aside0.mk ((by rw [hg]; exact Nat.ne_of_lt (blk_lt (g := gb102) (o := .cells #[.int .u8 a1_0, .int .u16 a1_1, .int .u16 a1_2] 43 (0, 0)) (tb BK102.out)) : gb102 ≠ gb112)); have n9_ := Aside0.mk ((by rw [hg]; exact Nat.ne_of_gt (blk_lt (g := gb102) (o := .cells #[.int .u8 a1_0, .int .u16 a1_1, .int .u16 a1_2] 43 (0, 0)) (tb BK102.out)) : gb112 ≠ gb102)); clear BK101; clear BK102; clear HB; have BK101 := n0_; have BK102 := n1_; have HB := n2_; have BK112 := n3_; have GW112 := n4_; have GE112 := n5_; have NB101_112 := n6_; have NB112_101 := n7_; have NB102_112 := n8_; have NB112_102 := n9_; clear n0_ n1_ n2_ n3_ n4_ n5_ n6_ n7_ n8_ n9_; clear hb hbox hg; have hnb59 := NB112_101.out; have hnc59 := NB101_112.out; have hnb60 := NB112_102.out; have hnc60 := NB102_112.out; have hcz61_0 := cz BK112.out 0 (.int .u8 0); have hcz61_1 := cz BK112.out 1 (.int .u8 0); have hcz61_2 := cz BK112.out 2 (.int .u8 0); have hcz61_3 := cz BK112.out 3 (.int .u8 0); have hcz61_4 := cz BK112.out 4 (.int .i32 0); have hfz61_0 := blk_frozen BK112.out 0; have hfz61_1 := blk_frozen BK112.out 1; have hfz61_2 := blk_frozen BK112.out 2; have hfz61_3 := blk_frozen BK112.out 3; have hfz61_4 := blk_frozen BK112.out 4; have hcz62_0 := cz BK102.out 0 (.int .u8 a1_0); have hcz62_1 := cz BK102.out 1 (.int .u16 a1_1); have hcz62_2 := cz BK102.out 2 (.int .u16 a1_2); have hfz62_0 := blk_frozen BK102.out 0; have hfz62_1 := blk_frozen BK102.out 1; have hfz62_2 := blk_frozen BK102.out 2))
       go_ret
       exact ⟨by first | rfl | (simp [errW_none, errW_some] <;> rfl) | (simp [*, errW_none, errW_some] <;> rfl), tg3 HB.out GE101.out GE102.out GE112.out⟩
   ·rw [if_neg c6] at H
    exact absurd H (by simp)
  ·rw [if_neg c5] at H
   exact absurd H (by simp)
 ·replace c4 := Bool.eq_false_iff.mpr c4
  subst c4
  have H1 : (if 0 ≤ a1_1 then (if a1_1 < (l0_4.length : Int) then (some ((rd l0_4 a1_1) == 0)) else (none)) else (none)) = some r := by rw [if_neg (show ¬ (false = true) by decide)] at H; exact H
  clear H
  have H := H1
  clear H1
  by_cases c63 : 0 ≤ a1_1
  ·rw [if_pos c63] at H
   have c63b0 : decide (0 ≤ a1_1) = true := decide_eq_true c63
   clear c63
   by_cases c64 : a1_1 < (l0_4.length : Int)
   ·rw [if_pos c64] at H
    have c64b0 : decide (a1_1 < (l0_4.length : Int)) = true := decide_eq_true c64
    clear c64
    obtain rfl := Option.some.inj H
    go_enter Tryd.func80, Tryd.ntmps80
    go_wp2_with (first | ((with_reducible refine gate_dst (N := 2) rfl ?_); refine box_event ?hg (N := 2) ?hd (cs := #[.string a0_0, .slice A0_1 l0_1.length c0_1, .slice A0_2 l0_2.length c0_2, .slice A0_3 l0_3.length c0_3, .slice A0_4 l0_4.length c0_4, .slice A0_5 l0_5.length c0_5]) (t := 26) ?hr ?_; (case hd => rfl); (case hg => rfl); (case hr => first | (go_simp; done) | (go_simp; rfl)); intro gb101 hg w65 hbox hb; have n0_ := Aside0.mk (below_step (tg HB.out) hb); have n1_ := Aside0.mk (hbox); have n2_ := Aside0.mk ((by rw [hg]; exact (below_size (tg HB.out)) : w.heap.size ≤ gb101)); have n3_ := Aside0.mk ((by rw [hg]; exact (below_size (tg HB.out)) : w.heap.size ≤ gb101)); clear HB; have HB := n0_; have BK101 := n1_; have GW101 := n2_; have GE101 := n3_; clear n0_ n1_ n2_ n3_; clear hb hbox hg) | ((with_reducible refine gate_dst (N := 3) rfl ?_); refine box_event ?hg (N := 3) ?hd (cs := #[.int .u8 a1_0, .int .u16 a1_1, .int .u16 a1_2]) (t := 43) ?hr ?_; (case hd => rfl); (case hg => rfl); (case hr => first | (go_simp; done) | (go_simp; rfl)); intro gb102 hg w66 hbox hb; have n0_ := ba BK101.out hb; have n1_ := Aside0.mk (below_step (tg1 HB.out GE101.out) hb); have n2_ := Aside0.mk (hbox); have n3_ := Aside0.mk ((by rw [hg]; exact (below_size (tg1 HB.out GE101.out)) : w.heap.size ≤ gb102)); have n4_ := Aside0.mk ((by rw [hg]; exact (below_size (tg1 HB.out GE101.out)) : w.heap.size ≤ gb102)); have n5_ := Aside0.mk ((by rw [hg]; exact Nat.ne_of_lt (blk_lt (g := gb101) (o := .cells #[.string a0_0, .slice A0_1 l0_1.length c0_1, .slice A0_2 l0_2.length c0_2, .slice A0_3 l0_3.length c0_3, .slice A0_4 l0_4.length c0_4, .slice A0_5 l0_5.length c0_5] 26 (0, 0)) (tb BK101.out)) : gb101 ≠ gb102)); have n6_ := Aside0.mk ((by rw [hg]; exact Nat.ne_of_gt (blk_lt (g := gb101) (o := .cells #[.string a0_0, .slice A0_1 l0_1.length c0_1, .slice A0_2 l0_2.length c0_2, .slice A0_3 l0_3.length c0_3, .slice A0_4 l0_4.length c0_4, .slice A0_5 l0_5.length c0_5] 26 (0, 0)) (tb BK101.out)) : gb102 ≠ gb101)); clear BK101; clear HB; have BK101 := n0_; have HB := n1_; have BK102 := n2_; have GW102 := n3_; have GE102 := n4_; have NB101_102 := n5_; have NB102_101 := n6_; clear n0_ n1_ n2_ n3_ n4_ n5_ n6_; clear hb hbox hg; have hnb67 := NB102_101.out; have hnc67 := NB101_102.out; have hcz68_0 := cz BK102.out 0 (.int .u8 a1_0); have hcz68_1 := cz BK102.out 1 (.int .u16 a1_1); have hcz68_2 := cz BK102.out 2 (.int .u16 a1_2); have hfz68_0 := blk_frozen BK102.out 0; have hfz68_1 := blk_frozen BK102.out 1; have hfz68_2 := blk_frozen BK102.out 2) | ((with_reducible refine gate_callee (f := 77) rfl ?_); refine goesL_ (some 8) rfl rfl Tryd.func77 (by kernel_rfl) rfl #[.agg #[.int .u8 a1_0, .int .u16 a1_1, .int .u16 a1_2]] rfl tm ?_; (with_reducible refine (valid_of.calls a1_0 a1_1 a1_2 false t104 _ A3.out).mono ?_); rintro e w69 ⟨rfl, hb⟩; refine ⟨_, rfl, ?_⟩; replace BK101 := ba BK101.out hb; replace BK102 := ba BK102.out hb; replace HB := Aside0.mk (below_step (tg2 HB.out GE101.out GE102.out) hb); (try clear hb); (try clear hb2); (try clear hk); (try clear hi); have hcz70_0 := cz BK101.out 0 (.string a0_0); have hcz70_1 := cz BK101.out 1 (.slice A0_1 l0_1.length c0_1); have hcz70_2 := cz BK101.out 2 (.slice A0_2 l0_2.length c0_2); have hcz70_3 := cz BK101.out 3 (.slice A0_3 l0_3.length c0_3); have hcz70_4 := cz BK101.out 4 (.slice A0_4 l0_4.length c0_4); have hcz70_5 := cz BK101.out 5 (.slice A0_5 l0_5.length c0_5); have hfz70_0 := blk_frozen BK101.out 0; have hfz70_1 := blk_frozen BK101.out 1; have hfz70_2 := blk_frozen BK101.out 2; have hfz70_3 := blk_frozen BK101.out 3; have hfz70_4 := blk_frozen BK101.out 4; have hfz70_5 := blk_frozen BK101.out 5; have hcz71_0 := cz BK102.out 0 (.int .u8 a1_0); have hcz71_1 := cz BK102.out 1 (.int .u16 a1_1); have hcz71_2 := cz BK102.out 2 (.int .u16 a1_2); have hfz71_0 := blk_frozen BK102.out 0; have hfz71_1 := blk_frozen BK102.out 1; have hfz71_2 := blk_frozen BK102.out 2; have p113 : 0 ≤ (a1_1 : Int) := of_decide_eq_true (by first | (with_reducible assumption) | assumption); have q113 : a1_1 < (l0_4.length : Int) := of_decide_eq_true (by first | (with_reducible assumption) | assumption); obtain ⟨ad113, e113, hx113_0⟩ := Kd.at_int HR0_4.out a1_1 p113 q113; cases e113; replace hx113_0 := (HB.out.cell (World.block_lt_of_cell? w _ hx113_0)).trans hx113_0; replace p113 := eq_true p113; replace q113 := eq_true q113))
    go_ret
    exact ⟨by first | rfl | (simp [errW_none, errW_some] <;> rfl) | (simp [*, errW_none, errW_some] <;> rfl), tg2 HB.out GE101.out GE102.out⟩
   ·rw [if_neg c64] at H
    exact absurd H (by simp)
  ·rw [if_neg c63] at H
   exact absurd H (by simp)

end Go.Proofs.YtiphindialkmnaaDoor.X
end
section
namespace Go.Proofs.YtiphindialkmnaaDoor.X
open Go.RowKit Go.Proofs.YtiphindialkmnaaDoorW.PrintWords Go.Proofs.YtiphindialkmnaaDoorW.PrintLast Go.Proofs.YtiphindialkmnaaDoorW.PrintMore
attribute [local go_sem] max2_int min2_int max_two min_two max_three min_three max_four min_four
set_option linter.unusedVariables false
set_option linter.unusedSimpArgs false

/-! ### valid_there: function 82 -/
def valid_there.j0 : Nat → Int → Bool → ByteArray → List ByteArray → List ByteArray → List Int → List Int → List (S43) → Int → Int → Int → Option (Bool)
 | 0, _, _, _, _, _, _, _, _, _, _, _ => none
 | k + 1, x6, x7, x102000, x102001, x102002, x102003, x102004, x102005, x103000, x103001, x103002 => if x7 = true then (some (decide ((wrap64 (x103002)) < (x102002.length : Int)))) else (if x6 = 2 then (some (decide ((wrap64 (x103002)) < (x102004.length : Int)))) else (if x6 = 5 then (some (decide ((wrap64 (x103002)) < (x102004.length : Int)))) else (some (decide ((wrap64 (x103002)) < (x102003.length : Int))))))
def valid_there.f (k : Nat) (a0_0 : ByteArray) (l0_1 : List ByteArray) (l0_2 : List ByteArray) (l0_3 : List Int) (l0_4 : List Int) (l0_5 : List (S43)) (a1_0 : Int) (a1_1 : Int) (a1_2 : Int) : Option (Bool) := if a1_0 = 0 then (valid_there.j0 k a1_0 (a1_0 == 0) a0_0 l0_1 l0_2 l0_3 l0_4 l0_5 a1_0 a1_1 a1_2) else (if a1_0 = 1 then (valid_there.j0 k a1_0 (a1_0 == 1) a0_0 l0_1 l0_2 l0_3 l0_4 l0_5 a1_0 a1_1 a1_2) else (valid_there.j0 k a1_0 (a1_0 == 4) a0_0 l0_1 l0_2 l0_3 l0_4 l0_5 a1_0 a1_1 a1_2))
theorem valid_there.mono_l : ∀ k, (∀ y0 y1 y2 y3 y4 y5 y6 y7 y8 y9 y10, LeO (valid_there.j0 k y0 y1 y2 y3 y4 y5 y6 y7 y8 y9 y10) (valid_there.j0 (k + 1) y0 y1 y2 y3 y4 y5 y6 y7 y8 y9 y10))
 | 0 => fun _ _ _ _ _ _ _ _ _ _ _ r h => by simp [valid_there.j0] at h
 | k + 1 => by
  have ih0 := valid_there.mono_l k
  ·intro y0 y1 y2 y3 y4 y5 y6 y7 y8 y9 y10
   unfold valid_there.j0
   repeat' first
   | (with_reducible exact ih0 _ _ _ _ _ _ _ _ _ _ _)
   | (with_reducible exact LeO.refl _)
   | (with_reducible exact LeO.none _)
   | (with_reducible refine LeO.ite ?_ ?_)
   | (with_reducible refine LeO.bind ?_ (fun _ => ?_))
   | exact ih0 _ _ _ _ _ _ _ _ _ _ _
   | exact LeO.none _
   | refine LeO.ite ?_ ?_
   | refine LeO.bind ?_ (fun _ => ?_)
theorem valid_there.mono : ∀ a0 a1 a2 a3 a4 a5 a6 a7 a8 k, LeO (valid_there.f k a0 a1 a2 a3 a4 a5 a6 a7 a8) (valid_there.f (k + 1) a0 a1 a2 a3 a4 a5 a6 a7 a8) := by
 intro a0 a1 a2 a3 a4 a5 a6 a7 a8 k
 have ih0 := valid_there.mono_l k
 unfold valid_there.f
 repeat' first
   | (with_reducible exact ih0 _ _ _ _ _ _ _ _ _ _ _)
   | (with_reducible exact LeO.refl _)
   | (with_reducible exact LeO.none _)
   | (with_reducible refine LeO.ite ?_ ?_)
   | (with_reducible refine LeO.bind ?_ (fun _ => ?_))
   | exact ih0 _ _ _ _ _ _ _ _ _ _ _
   | exact LeO.none _
   | refine LeO.ite ?_ ?_
   | refine LeO.bind ?_ (fun _ => ?_)
set_option maxHeartbeats 8000000 in
set_option maxRecDepth 100000 in
theorem valid_there.calls (k : Nat) (a0_0 : ByteArray) (A0_1 : Option Addr) (c0_1 : Nat) (l0_1 : List ByteArray) (A0_2 : Option Addr) (c0_2 : Nat) (l0_2 : List ByteArray) (A0_3 : Option Addr) (c0_3 : Nat) (l0_3 : List Int) (A0_4 : Option Addr) (c0_4 : Nat) (l0_4 : List Int) (A0_5 : Option Addr) (c0_5 : Nat) (l0_5 : List (S43)) (a1_0 : Int) (a1_1 : Int) (a1_2 : Int) (r : Bool) (w : World) (hr0_1 : Kd.C Kd.string w A0_1 l0_1.length l0_1) (hc0_1 : l0_1.length ≤ c0_1) (hr0_2 : Kd.C Kd.string w A0_2 l0_2.length l0_2) (hc0_2 : l0_2.length ≤ c0_2) (hr0_3 : Kd.C (Kd.int .u32) w A0_3 l0_3.length l0_3) (hc0_3 : l0_3.length ≤ c0_3) (hr0_4 : Kd.C (Kd.int .u32) w A0_4 l0_4.length l0_4) (hc0_4 : l0_4.length ≤ c0_4) (hr0_5 : Kd.C k43 w A0_5 l0_5.length l0_5) (hc0_5 : l0_5.length ≤ c0_5) (h : valid_there.f k a0_0 l0_1 l0_2 l0_3 l0_4 l0_5 a1_0 a1_1 a1_2 = some r) :
  Calls Tryd.prog 82 #[.agg #[.string a0_0, .slice A0_1 l0_1.length c0_1, .slice A0_2 l0_2.length c0_2, .slice A0_3 l0_3.length c0_3, .slice A0_4 l0_4.length c0_4, .slice A0_5 l0_5.length c0_5], .agg #[.int .u8 a1_0, .int .u16 a1_1, .int .u16 a1_2]] w fun e w' => e = .returned (.bool r) ∧ Below w.heap.size w w' := by
 have hu26 := Tryd.underlying26
 have hu43 := Tryd.underlying43
 have HR0_1 := Aside0.mk hr0_1
 have HC0_1 := Aside0.mk hc0_1
 clear hr0_1 hc0_1
 have HR0_2 := Aside0.mk hr0_2
 have HC0_2 := Aside0.mk hc0_2
 clear hr0_2 hc0_2
 have HR0_3 := Aside0.mk hr0_3
 have HC0_3 := Aside0.mk hc0_3
 clear hr0_3 hc0_3
 have HR0_4 := Aside0.mk hr0_4
 have HC0_4 := Aside0.mk hc0_4
 clear hr0_4 hc0_4
 have HR0_5 := Aside0.mk hr0_5
 have HC0_5 := Aside0.mk hc0_5
 clear hr0_5 hc0_5
 have HB := Aside0.mk (Below.refl w.heap.size w)
 have H : (if a1_0 = 0 then (valid_there.j0 k a1_0 (a1_0 == 0) a0_0 l0_1 l0_2 l0_3 l0_4 l0_5 a1_0 a1_1 a1_2) else (if a1_0 = 1 then (valid_there.j0 k a1_0 (a1_0 == 1) a0_0 l0_1 l0_2 l0_3 l0_4 l0_5 a1_0 a1_1 a1_2) else (valid_there.j0 k a1_0 (a1_0 == 4) a0_0 l0_1 l0_2 l0_3 l0_4 l0_5 a1_0 a1_1 a1_2))) = some r := h
 clear h
 have HC3 := Aside0.mk H
 clear H
 go_enter Tryd.func82, Tryd.ntmps82
 go_upto_if 7 with (first | ((with_reducible refine gate_dst (N := 2) rfl ?_); refine box_event ?hg (N := 2) ?hd (cs := #[.string a0_0, .slice A0_1 l0_1.length c0_1, .slice A0_2 l0_2.length c0_2, .slice A0_3 l0_3.length c0_3, .slice A0_4 l0_4.length c0_4, .slice A0_5 l0_5.length c0_5]) (t := 26) ?hr ?_; (case hd => rfl); (case hg => rfl); (case hr => first | (go_simp; done) | (go_simp; rfl)); intro gb101 hg w4 hbox hb; have n0_ := Aside0.mk (below_step (tg HB.out) hb); have n1_ := Aside0.mk (hbox); have n2_ := Aside0.mk ((by rw [hg]; exact (below_size (tg HB.out)) : w.heap.size ≤ gb101)); have n3_ := Aside0.mk ((by rw [hg]; exact (below_size (tg HB.out)) : w.heap.size ≤ gb101)); clear HB; have HB := n0_; have BK101 := n1_; have GW101 := n2_; have GE101 := n3_; clear n0_ n1_ n2_ n3_; clear hb hbox hg) | ((with_reducible refine gate_dst (N := 3) rfl ?_); refine box_event ?hg (N := 3) ?hd (cs := #[.int .u8 a1_0, .int .u16 a1_1, .int .u16 a1_2]) (t := 43) ?hr ?_; (case hd => rfl); (case hg => rfl); (case hr => first | (go_simp; done) | (go_simp; rfl)); intro gb102 hg w5 hbox hb; have n0_ := ba BK101.out hb; have n1_ := Aside0.mk (below_step (tg1 HB.out GE101.out) hb); have n2_ := Aside0.mk (hbox); have n3_ := Aside0.mk ((by rw [hg]; exact (below_size (tg1 HB.out GE101.out)) : w.heap.size ≤ gb102)); have n4_ := Aside0.mk ((by rw [hg]; exact (below_size (tg1 HB.out GE101.out)) : w.heap.size ≤ gb102)); have n5_ := Aside0.mk ((by rw [hg]; exact Nat.ne_of_lt (blk_lt (g := gb101) (o := .cells #[.string a0_0, .slice A0_1 l0_1.length c0_1, .slice A0_2 l0_2.length c0_2, .slice A0_3 l0_3.length c0_3, .slice A0_4 l0_4.length c0_4, .slice A0_5 l0_5.length c0_5] 26 (0, 0)) (tb BK101.out)) : gb101 ≠ gb102)); have n6_ := Aside0.mk ((by rw [hg]; exact Nat.ne_of_gt (blk_lt (g := gb101) (o := .cells #[.string a0_0, .slice A0_1 l0_1.length c0_1, .slice A0_2 l0_2.length c0_2, .slice A0_3 l0_3.length c0_3, .slice A0_4 l0_4.length c0_4, .slice A0_5 l0_5.length c0_5] 26 (0, 0)) (tb BK101.out)) : gb102 ≠ gb101)); clear BK101; clear HB; have BK101 := n0_; have HB := n1_; have BK102 := n2_; have GW102 := n3_; have GE102 := n4_; have NB101_102 := n5_; have NB102_101 := n6_; clear n0_ n1_ n2_ n3_ n4_ n5_ n6_; clear hb hbox hg; have hnb6 := NB102_101.out; have hnc6 := NB101_102.out; have hcz7_0 := cz BK102.out 0 (.int .u8 a1_0); have hcz7_1 := cz BK102.out 1 (.int .u16 a1_1); have hcz7_2 := cz BK102.out 2 (.int .u16 a1_2); have hfz7_0 := blk_frozen BK102.out 0; have hfz7_1 := blk_frozen BK102.out 1; have hfz7_2 := blk_frozen BK102.out 2))
 (try simp only [Act.put, List.setIfInBounds_toArray, List.set_cons_zero, List.set_cons_succ])
 go_cut [7] (fun v7 wc => ∃ (kq : Nat) (x7_2 : Bool), v7 = .bool x7_2 ∧ Aside0 (valid_there.j0 kq a1_0 x7_2 a0_0 l0_1 l0_2 l0_3 l0_4 l0_5 a1_0 a1_1 a1_2 = some r) ∧ Aside0 (kq ≤ k) ∧ Aside0 (wc.heap[gb101]? = some (.cells #[.string a0_0, (.slice A0_1 l0_1.length c0_1), (.slice A0_2 l0_2.length c0_2), (.slice A0_3 l0_3.length c0_3), (.slice A0_4 l0_4.length c0_4), (.slice A0_5 l0_5.length c0_5)] 26 (0, 0))) ∧ Aside0 (wc.heap[gb102]? = some (.cells #[.int .u8 a1_0, .int .u16 a1_1, .int .u16 a1_2] 43 (0, 0))) ∧ Aside0 (Below w.heap.size w wc))
 case first =>
  have H := HC3.out
  clear HC3
  by_cases c8 : a1_0 = 0
  ·rw [if_pos c8] at H
   have c8b0 : (a1_0 == 0) = true := beq_iff_eq.mpr c8
   have c8b1 : (a1_0 != 0) = false := bne_eq_false_iff_eq.mpr c8
   clear c8
   (first | rw [c8b0] | (simp only [i64_w, i32_w]; rw [c8b0]) | skip)
   have H' := Aside0.mk H
   clear H
   go_wp2
   go_meet
   case rel => exact ⟨_, ((a1_0 == 0)), (by first | rfl | (simp; done) | (simp [*]; done)), H', ⟨by first | omega | exact Nat.le_refl _⟩, ⟨by (with_reducible repeat (first | refine blk_drewN ?_ _ | refine blk_drew ?_ | refine blk_alloc ?_ _)); exact BK101.out⟩, ⟨by (with_reducible repeat (first | refine blk_drewN ?_ _ | refine blk_drew ?_ | refine blk_alloc ?_ _)); exact BK102.out⟩, ⟨tg2 HB.out GE101.out GE102.out⟩⟩
  ·rw [if_neg c8] at H
   have c8b0 : (a1_0 == 0) = false := beq_eq_false_iff_ne.mpr c8
   have c8b1 : (a1_0 != 0) = true := bne_iff_ne.mpr c8
   (first | rw [c8b0] | (simp only [i64_w, i32_w]; rw [c8b0]) | skip)
   by_cases c9 : a1_0 = 1
   ·rw [if_pos c9] at H
    have c9b0 : (a1_0 == 1) = true := beq_iff_eq.mpr c9
    have c9b1 : (a1_0 != 1) = false := bne_eq_false_iff_eq.mpr c9
    clear c9
    have H' := Aside0.mk H
    clear H
    go_wp2
    go_meet
    case rel => exact ⟨_, ((a1_0 == 1)), (by first | rfl | (simp; done) | (simp [*]; done)), H', ⟨by first | omega | exact Nat.le_refl _⟩, ⟨by (with_reducible repeat (first | refine blk_drewN ?_ _ | refine blk_drew ?_ | refine blk_alloc ?_ _)); exact BK101.out⟩, ⟨by (with_reducible repeat (first | refine blk_drewN ?_ _ | refine blk_drew ?_ | refine blk_alloc ?_ _)); exact BK102.out⟩, ⟨tg2 HB.out GE101.out GE102.out⟩⟩
   ·rw [if_neg c9] at H
    have c9b0 : (a1_0 == 1) = false := beq_eq_false_iff_ne.mpr c9
    have c9b1 : (a1_0 != 1) = true := bne_iff_ne.mpr c9
    have H' := Aside0.mk H
    clear H
    go_wp2
    go_meet
    case rel => exact ⟨_, ((a1_0 == 4)), (by first | rfl | (simp; done) | (simp [*]; done)), H', ⟨by first | omega | exact Nat.le_refl _⟩, ⟨by (with_reducible repeat (first | refine blk_drewN ?_ _ | refine blk_drew ?_ | refine blk_alloc ?_ _)); exact BK101.out⟩, ⟨by (with_reducible repeat (first | refine blk_drewN ?_ _ | refine blk_drew ?_ | refine blk_alloc ?_ _)); exact BK102.out⟩, ⟨tg2 HB.out GE101.out GE102.out⟩⟩
 case rest =>
  clear HC3
  try clear p2
  try clear c6
  try clear c8
  try clear c8b0
  try clear c8b1
  try clear c9
  try clear c9b0
  try clear c9b1
  try clear hcz7_0
  try clear hcz7_1
  try clear hcz7_2
  try clear hfz7_0
  try clear hfz7_1
  try clear hfz7_2
  obtain ⟨kq, x7_2, rfl, HA, HJ2, BK101, BK102, HB⟩ := hcut
  cases kq with
  | zero => exact absurd HA.out (by simp [valid_there.j0])
  | succ kj2 =>
   have H := HA.out
   clear HA
   simp only [valid_there.j0] at H
   by_cases c10 : x7_2 = true
   ·subst c10
    have H1 : (some (decide ((wrap64 (a1_2)) < (l0_2.length : Int)))) = some r := by rw [if_pos rfl] at H; exact H
    clear H
    have H := H1
    clear H1
    obtain rfl := Option.some.inj H
    have hnb11 := NB102_101.out
    have hnc11 := NB101_102.out
    have hcz12_0 := cz BK102.out 0 (.int .u8 a1_0)
    have hcz12_1 := cz BK102.out 1 (.int .u16 a1_1)
    have hcz12_2 := cz BK102.out 2 (.int .u16 a1_2)
    have hfz12_0 := blk_frozen BK102.out 0
    have hfz12_1 := blk_frozen BK102.out 1
    have hfz12_2 := blk_frozen BK102.out 2
    have hcz13_0 := cz BK101.out 0 (.string a0_0)
    have hcz13_1 := cz BK101.out 1 (.slice A0_1 l0_1.length c0_1)
    have hcz13_2 := cz BK101.out 2 (.slice A0_2 l0_2.length c0_2)
    have hcz13_3 := cz BK101.out 3 (.slice A0_3 l0_3.length c0_3)
    have hcz13_4 := cz BK101.out 4 (.slice A0_4 l0_4.length c0_4)
    have hcz13_5 := cz BK101.out 5 (.slice A0_5 l0_5.length c0_5)
    have hfz13_0 := blk_frozen BK101.out 0
    have hfz13_1 := blk_frozen BK101.out 1
    have hfz13_2 := blk_frozen BK101.out 2
    have hfz13_3 := blk_frozen BK101.out 3
    have hfz13_4 := blk_frozen BK101.out 4
    have hfz13_5 := blk_frozen BK101.out 5
    go_wp2
    go_ret
    exact ⟨by first | rfl | (simp [errW_none, errW_some] <;> rfl) | (simp [*, errW_none, errW_some] <;> rfl), tg2 HB.out GE101.out GE102.out⟩
   ·replace c10 := Bool.eq_false_iff.mpr c10
    subst c10
    have H1 : (if a1_0 = 2 then (some (decide ((wrap64 (a1_2)) < (l0_4.length : Int)))) else (if a1_0 = 5 then (some (decide ((wrap64 (a1_2)) < (l0_4.length : Int)))) else (some (decide ((wrap64 (a1_2)) < (l0_3.length : Int)))))) = some r := by rw [if_neg (show ¬ (false = true) by decide)] at H; exact H
    clear H
    have H := H1
    clear H1
    by_cases c14 : a1_0 = 2
    ·rw [if_pos c14] at H
     have c14b0 : (a1_0 == 2) = true := beq_iff_eq.mpr c14
     have c14b1 : (a1_0 != 2) = false := bne_eq_false_iff_eq.mpr c14
     clear c14
     obtain rfl := Option.some.inj H
     have hnb15 := NB102_101.out
     have hnc15 := NB101_102.out
     have hcz16_0 := cz BK102.out 0 (.int .u8 a1_0)
     have hcz16_1 := cz BK102.out 1 (.int .u16 a1_1)
     have hcz16_2 := cz BK102.out 2 (.int .u16 a1_2)
     have hfz16_0 := blk_frozen BK102.out 0
     have hfz16_1 := blk_frozen BK102.out 1
     have hfz16_2 := blk_frozen BK102.out 2
     have hcz17_0 := cz BK101.out 0 (.string a0_0)
     have hcz17_1 := cz BK101.out 1 (.slice A0_1 l0_1.length c0_1)
     have hcz17_2 := cz BK101.out 2 (.slice A0_2 l0_2.length c0_2)
     have hcz17_3 := cz BK101.out 3 (.slice A0_3 l0_3.length c0_3)
     have hcz17_4 := cz BK101.out 4 (.slice A0_4 l0_4.length c0_4)
     have hcz17_5 := cz BK101.out 5 (.slice A0_5 l0_5.length c0_5)
     have hfz17_0 := blk_frozen BK101.out 0
     have hfz17_1 := blk_frozen BK101.out 1
     have hfz17_2 := blk_frozen BK101.out 2
     have hfz17_3 := blk_frozen BK101.out 3
     have hfz17_4 := blk_frozen BK101.out 4
     have hfz17_5 := blk_frozen BK101.out 5
     go_wp2
     go_ret
     exact ⟨by first | rfl | (simp [errW_none, errW_some] <;> rfl) | (simp [*, errW_none, errW_some] <;> rfl), tg2 HB.out GE101.out GE102.out⟩
    ·rw [if_neg c14] at H
     have c14b0 : (a1_0 == 2) = false := beq_eq_false_iff_ne.mpr c14
     have c14b1 : (a1_0 != 2) = true := bne_iff_ne.mpr c14
     by_cases c18 : a1_0 = 5
     ·rw [if_pos c18] at H
      have c18b0 : (a1_0 == 5) = true := beq_iff_eq.mpr c18
      have c18b1 : (a1_0 != 5) = false := bne_eq_false_iff_eq.mpr c18
      clear c18
      obtain rfl := Option.some.inj H
      have hnb19 := NB102_101.out
      have hnc19 := NB101_102.out
      have hcz20_0 := cz BK102.out 0 (.int .u8 a1_0)
      have hcz20_1 := cz BK102.out 1 (.int .u16 a1_1)
      have hcz20_2 := cz BK102.out 2 (.int .u16 a1_2)
      have hfz20_0 := blk_frozen BK102.out 0
      have hfz20_1 := blk_frozen BK102.out 1
      have hfz20_2 := blk_frozen BK102.out 2
      have hcz21_0 := cz BK101.out 0 (.string a0_0)
      have hcz21_1 := cz BK101.out 1 (.slice A0_1 l0_1.length c0_1)
      have hcz21_2 := cz BK101.out 2 (.slice A0_2 l0_2.length c0_2)
      have hcz21_3 := cz BK101.out 3 (.slice A0_3 l0_3.length c0_3)
      have hcz21_4 := cz BK101.out 4 (.slice A0_4 l0_4.length c0_4)
      have hcz21_5 := cz BK101.out 5 (.slice A0_5 l0_5.length c0_5)
      have hfz21_0 := blk_frozen BK101.out 0
      have hfz21_1 := blk_frozen BK101.out 1
      have hfz21_2 := blk_frozen BK101.out 2
      have hfz21_3 := blk_frozen BK101.out 3
      have hfz21_4 := blk_frozen BK101.out 4
      have hfz21_5 := blk_frozen BK101.out 5
      go_wp2
      go_ret
      exact ⟨by first | rfl | (simp [errW_none, errW_some] <;> rfl) | (simp [*, errW_none, errW_some] <;> rfl), tg2 HB.out GE101.out GE102.out⟩
     ·rw [if_neg c18] at H
      have c18b0 : (a1_0 == 5) = false := beq_eq_false_iff_ne.mpr c18
      have c18b1 : (a1_0 != 5) = true := bne_iff_ne.mpr c18
      obtain rfl := Option.some.inj H
      have hnb22 := NB102_101.out
      have hnc22 := NB101_102.out
      have hcz23_0 := cz BK102.out 0 (.int .u8 a1_0)
      have hcz23_1 := cz BK102.out 1 (.int .u16 a1_1)
      have hcz23_2 := cz BK102.out 2 (.int .u16 a1_2)
      have hfz23_0 := blk_frozen BK102.out 0
      have hfz23_1 := blk_frozen BK102.out 1
      have hfz23_2 := blk_frozen BK102.out 2
      have hcz24_0 := cz BK101.out 0 (.string a0_0)
      have hcz24_1 := cz BK101.out 1 (.slice A0_1 l0_1.length c0_1)
      have hcz24_2 := cz BK101.out 2 (.slice A0_2 l0_2.length c0_2)
      have hcz24_3 := cz BK101.out 3 (.slice A0_3 l0_3.length c0_3)
      have hcz24_4 := cz BK101.out 4 (.slice A0_4 l0_4.length c0_4)
      have hcz24_5 := cz BK101.out 5 (.slice A0_5 l0_5.length c0_5)
      have hfz24_0 := blk_frozen BK101.out 0
      have hfz24_1 := blk_frozen BK101.out 1
      have hfz24_2 := blk_frozen BK101.out 2
      have hfz24_3 := blk_frozen BK101.out 3
      have hfz24_4 := blk_frozen BK101.out 4
      have hfz24_5 := blk_frozen BK101.out 5
      go_wp2
      go_ret
      exact ⟨by first | rfl | (simp [errW_none, errW_some] <;> rfl) | (simp [*, errW_none, errW_some] <;> rfl), tg2 HB.out GE101.out GE102.out⟩

end Go.Proofs.YtiphindialkmnaaDoor.X
end
section
namespace Go.Proofs.YtiphindialkmnaaDoor.X
open Go.RowKit Go.Proofs.YtiphindialkmnaaDoorW.PrintWords Go.Proofs.YtiphindialkmnaaDoorW.PrintLast Go.Proofs.YtiphindialkmnaaDoorW.PrintMore
attribute [local go_sem] max2_int min2_int max_two min_two max_three min_three max_four min_four
set_option linter.unusedVariables false
set_option linter.unusedSimpArgs false

/-! ### object_Check_1: function 72 -/
def object_Check_1.f (a0 : ByteArray) : Option (Bool) := some (decide ((a0.size : Int) > 96))
set_option maxHeartbeats 8000000 in
set_option maxRecDepth 100000 in
theorem object_Check_1.calls (a0 : ByteArray) (r : Bool) (w : World) (h : object_Check_1.f a0 = some r) :
    Calls Tryd.prog 72 #[.string a0] w fun e w' => e = .returned (.bool r) ∧ Drawn0 w w' := by
  have H : (some (decide ((a0.size : Int) > 96))) = some r := h
  clear h
  obtain rfl := Option.some.inj H
  go_enter Tryd.func72, Tryd.ntmps72
  go_wp2
  go_ret
  exact ⟨by first | rfl | (simp; done) | (simp [*]; done), by repeat (first | exact Drawn0.refl _ | apply Drawn0.step)⟩

end Go.Proofs.YtiphindialkmnaaDoor.X
end
section
namespace Go.Proofs.YtiphindialkmnaaDoor.X
open Go.RowKit Go.Proofs.YtiphindialkmnaaDoorW.PrintWords Go.Proofs.YtiphindialkmnaaDoorW.PrintLast Go.Proofs.YtiphindialkmnaaDoorW.PrintMore
attribute [local go_sem] max2_int min2_int max_two min_two max_three min_three max_four min_four
set_option linter.unusedVariables false
set_option linter.unusedSimpArgs false

/-! ### IndexFunc_long: function 93 -/
def IndexFunc_long.l0 : Nat → List ByteArray → Int → Int → Option (Int)
  | 0, _, _, _ => none
  | k + 1, x0, x7, x8 => if x8 < x7 then (if 0 ≤ x8 then (if x8 < (x0.length : Int) then ((object_Check_1.f (rdOf ByteArray.empty x0 x8)).bind fun t102 => (if t102 = true then (some x8) else (IndexFunc_long.l0 k x0 x7 (wrap64 (x8 + 1))))) else (none)) else (none)) else (some (-1))
def IndexFunc_long.f (k : Nat) (l0 : List ByteArray) (a1 : Unit) : Option (Int) := IndexFunc_long.l0 k l0 (l0.length : Int) 0
theorem IndexFunc_long.mono_l : ∀ k, (∀ y0 y1 y2, LeO (IndexFunc_long.l0 k y0 y1 y2) (IndexFunc_long.l0 (k + 1) y0 y1 y2))
  | 0 => fun _ _ _ r h => by simp [IndexFunc_long.l0] at h
  | k + 1 => by
    have ih0 := IndexFunc_long.mono_l k
    · intro y0 y1 y2
      unfold IndexFunc_long.l0
      repeat' first
      | (with_reducible exact ih0 _ _ _)
      | (with_reducible exact LeO.refl _)
      | (with_reducible exact LeO.none _)
      | (with_reducible refine LeO.ite ?_ ?_)
      | (with_reducible refine LeO.bind ?_ (fun _ => ?_))
      | exact ih0 _ _ _
      | exact LeO.none _
      | refine LeO.ite ?_ ?_
      | refine LeO.bind ?_ (fun _ => ?_)
theorem IndexFunc_long.mono : ∀ a0 a1 k, LeO (IndexFunc_long.f k a0 a1) (IndexFunc_long.f (k + 1) a0 a1) := by
  intro a0 a1 k
  have ih0 := IndexFunc_long.mono_l k
  unfold IndexFunc_long.f
  repeat' first
      | (with_reducible exact ih0 _ _ _)
      | (with_reducible exact LeO.refl _)
      | (with_reducible exact LeO.none _)
      | (with_reducible refine LeO.ite ?_ ?_)
      | (with_reducible refine LeO.bind ?_ (fun _ => ?_))
      | exact ih0 _ _ _
      | exact LeO.none _
      | refine LeO.ite ?_ ?_
      | refine LeO.bind ?_ (fun _ => ?_)
set_option maxHeartbeats 8000000 in
set_option maxRecDepth 100000 in
theorem IndexFunc_long.calls (k : Nat) (A0 : Option Addr) (c0 : Nat) (l0 : List ByteArray) (a1 : Unit) (r : Int) (w : World) (hr0 : Kd.C Kd.string w A0 l0.length l0) (hc0 : l0.length ≤ c0) (h : IndexFunc_long.f k l0 a1 = some r) :
    Calls Tryd.prog 93 #[.slice A0 l0.length c0, .func (.func 72) #[] #[]] w fun e w' => e = .returned (.int .i64 r) ∧ Drawn0 w w' := by
  have HR0 := Aside0.mk hr0
  have HC0 := Aside0.mk hc0
  clear hr0 hc0
  have H : (IndexFunc_long.l0 k l0 (l0.length : Int) 0) = some r := h
  clear h
  have H' := Aside0.mk H
  clear H
  go_enter Tryd.func93, Tryd.ntmps93
  go_wp2
  go_loopg [8] k (fun kq v8 w' => ∃ (x8_1 : Int), v8 = .int .i64 x8_1 ∧ Aside0 (IndexFunc_long.l0 kq l0 (l0.length : Int) x8_1 = some r) ∧ Aside0 (kq ≤ k) ∧ Drawn0 w w')
  case atStart => exact ⟨(0), (by first | rfl | (simp; done) | (simp [*]; done)), H', ⟨Nat.le_refl _⟩, by repeat (first | exact Drawn0.refl _ | apply Drawn0.step)⟩
  case round =>
    clear H'
    try clear p2
    obtain ⟨x8_1, rfl, HA, HK1, ⟨m1, rfl⟩⟩ := hrel
    cases gk with
    | zero => exact absurd HA.out (by simp [IndexFunc_long.l0])
    | succ k1 =>
      have H := HA.out
      clear HA
      simp only [IndexFunc_long.l0] at H
      by_cases c3 : x8_1 < (l0.length : Int)
      · rw [if_pos c3] at H
        have c3b0 : decide (x8_1 < (l0.length : Int)) = true := decide_eq_true c3
        clear c3
        by_cases c4 : 0 ≤ x8_1
        · rw [if_pos c4] at H
          have c4b0 : decide (0 ≤ x8_1) = true := decide_eq_true c4
          clear c4
          by_cases c5 : x8_1 < (l0.length : Int)
          · rw [if_pos c5] at H
            have c5b0 : decide (x8_1 < (l0.length : Int)) = true := decide_eq_true c5
            clear c5
            replace H := Option.bind_eq_some_iff.mp H
            obtain ⟨t102, A60, H⟩ := H
            replace H : (if t102 = true then (some x8_1) else (IndexFunc_long.l0 k1 l0 (l0.length : Int) (wrap64 (x8_1 + 1)))) = some r := H
            have A6 := Aside0.mk A60
            clear A60
            by_cases c7 : t102 = true
            · subst c7
              have H1 : (some x8_1) = some r := by rw [if_pos rfl] at H; exact H
              clear H
              have H := H1
              clear H1
              obtain rfl := Option.some.inj H
              have p101 : 0 ≤ (x8_1 : Int) := of_decide_eq_true (by first | (with_reducible assumption) | assumption)
              have q101 : x8_1 < (l0.length : Int) := of_decide_eq_true (by first | (with_reducible assumption) | assumption)
              obtain ⟨ad101, e101, hx101_0⟩ := Kd.at_string HR0.out x8_1 p101 q101
              cases e101
              replace p101 := eq_true p101
              replace q101 := eq_true q101
              go_wp2_with (first | (go_at_call 72; (with_reducible refine (object_Check_1.calls (rdOf ByteArray.empty l0 x8_1) true _ A6.out).mono ?_); rintro e w' ⟨rfl, ⟨nd, rfl⟩⟩))
              go_ret
              exact ⟨by first | rfl | (simp; done) | (simp [*]; done), by repeat (first | exact Drawn0.refl _ | apply Drawn0.step)⟩
            · replace c7 := Bool.eq_false_iff.mpr c7
              subst c7
              have H1 : (IndexFunc_long.l0 k1 l0 (l0.length : Int) (wrap64 (x8_1 + 1))) = some r := by rw [if_neg (show ¬ (false = true) by decide)] at H; exact H
              clear H
              have H := H1
              clear H1
              have H' := Aside0.mk H
              clear H
              have p101 : 0 ≤ (x8_1 : Int) := of_decide_eq_true (by first | (with_reducible assumption) | assumption)
              have q101 : x8_1 < (l0.length : Int) := of_decide_eq_true (by first | (with_reducible assumption) | assumption)
              obtain ⟨ad101, e101, hx101_0⟩ := Kd.at_string HR0.out x8_1 p101 q101
              cases e101
              replace p101 := eq_true p101
              replace q101 := eq_true q101
              go_wp2_with (first | (go_at_call 72; (with_reducible refine (object_Check_1.calls (rdOf ByteArray.empty l0 x8_1) false _ A6.out).mono ?_); rintro e w' ⟨rfl, ⟨nd, rfl⟩⟩))
              go_roundg k1
              case measure => have := HK1.out; omega
              case rel => exact ⟨(wrap64 (x8_1 + 1)), (by first | rfl | (simp; done) | (simp [*]; done)), H', ⟨by have := HK1.out; omega⟩, by repeat (first | exact Drawn0.refl _ | apply Drawn0.step)⟩
          · rw [if_neg c5] at H
            exact absurd H (by simp)
        · rw [if_neg c4] at H
          exact absurd H (by simp)
      · rw [if_neg c3] at H
        have c3b0 : decide (x8_1 < (l0.length : Int)) = false := decide_eq_false c3
        clear c3
        obtain rfl := Option.some.inj H
        go_wp2
        go_ret
        exact ⟨by first | rfl | (simp; done) | (simp [*]; done), by repeat (first | exact Drawn0.refl _ | apply Drawn0.step)⟩

end Go.Proofs.YtiphindialkmnaaDoor.X
end
section
namespace Go.Proofs.YtiphindialkmnaaDoor.X
open Go.RowKit Go.Proofs.YtiphindialkmnaaDoorW.PrintWords Go.Proofs.YtiphindialkmnaaDoorW.PrintLast Go.Proofs.YtiphindialkmnaaDoorW.PrintMore
attribute [local go_sem] max2_int min2_int max_two min_two max_three min_three max_four min_four
set_option linter.unusedVariables false
set_option linter.unusedSimpArgs false

/-! ### ContainsFunc_long: function 56 -/
def ContainsFunc_long.f (k : Nat) (l0 : List ByteArray) (a1 : Unit) : Option (Bool) := (IndexFunc_long.f k l0 a1).bind fun t101 => (some (decide (t101 ≥ 0)))
theorem ContainsFunc_long.mono : ∀ a0 a1 k, LeO (ContainsFunc_long.f k a0 a1) (ContainsFunc_long.f (k + 1) a0 a1) := by
  intro a0 a1 k
  unfold ContainsFunc_long.f
  repeat' first
      | (with_reducible exact IndexFunc_long.mono _ _ _)
      | (with_reducible exact LeO.refl _)
      | (with_reducible exact LeO.none _)
      | (with_reducible refine LeO.ite ?_ ?_)
      | (with_reducible refine LeO.bind ?_ (fun _ => ?_))
      | exact IndexFunc_long.mono _ _ _
      | exact LeO.none _
      | refine LeO.ite ?_ ?_
      | refine LeO.bind ?_ (fun _ => ?_)
set_option maxHeartbeats 8000000 in
set_option maxRecDepth 100000 in
theorem ContainsFunc_long.calls (k : Nat) (A0 : Option Addr) (c0 : Nat) (l0 : List ByteArray) (a1 : Unit) (r : Bool) (w : World) (hr0 : Kd.C Kd.string w A0 l0.length l0) (hc0 : l0.length ≤ c0) (h : ContainsFunc_long.f k l0 a1 = some r) :
    Calls Tryd.prog 56 #[.slice A0 l0.length c0, .func (.func 72) #[] #[]] w fun e w' => e = .returned (.bool r) ∧ Drawn0 w w' := by
  have HR0 := Aside0.mk hr0
  have HC0 := Aside0.mk hc0
  clear hr0 hc0
  have H : ((IndexFunc_long.f k l0 a1).bind fun t101 => (some (decide (t101 ≥ 0)))) = some r := h
  clear h
  replace H := Option.bind_eq_some_iff.mp H
  obtain ⟨t101, A30, H⟩ := H
  replace H : (some (decide (t101 ≥ 0))) = some r := H
  have A3 := Aside0.mk A30
  clear A30
  obtain rfl := Option.some.inj H
  go_enter Tryd.func56, Tryd.ntmps56
  go_wp2_with (first | ((with_reducible refine gate_callee (f := 93) rfl ?_); refine goesL_ (some 7) rfl rfl Tryd.func93 (by kernel_rfl) rfl #[.slice A0 l0.length c0, .func (.func 72) #[] #[]] rfl (by (try simp only [List.map_toArray, List.map_cons, List.map_nil]); first | done | rfl | (simp only [List.length_drop, List.length_take]; rfl)) ?_; (with_reducible refine (IndexFunc_long.calls k _ _ l0 a1 t101 _ ?side1 ?side2 A3.out).mono ?_); (case side1 => repeat (first | exact HR0.out | (with_reducible refine Kd.C_alloc ?_ _) | (with_reducible refine Kd.C_drewN ?_ _) | (with_reducible refine Kd.C_drew ?_))); (case side2 => exact HC0.out); rintro e w' ⟨rfl, ⟨nd, rfl⟩⟩; refine ⟨_, rfl, ?_⟩))
  go_ret
  exact ⟨by first | rfl | (simp; done) | (simp [*]; done), by repeat (first | exact Drawn0.refl _ | apply Drawn0.step)⟩

end Go.Proofs.YtiphindialkmnaaDoor.X
end
section
namespace Go.Proofs.YtiphindialkmnaaDoor.X
open Go.RowKit Go.Proofs.YtiphindialkmnaaDoorW.PrintWords Go.Proofs.YtiphindialkmnaaDoorW.PrintLast Go.Proofs.YtiphindialkmnaaDoorW.PrintMore
attribute [local go_sem] max2_int min2_int max_two min_two max_three min_three max_four min_four
set_option linter.unusedVariables false
set_option linter.unusedSimpArgs false

/-! ### object_Check_2: function 74 -/
def object_Check_2.f (a0_0 : Int) (a0_1 : Int) (a0_2 : Int) : Option (Bool) := some (decide (a0_0 > 7))
set_option maxHeartbeats 8000000 in
set_option maxRecDepth 100000 in
theorem object_Check_2.calls (a0_0 : Int) (a0_1 : Int) (a0_2 : Int) (r : Bool) (w : World) (h : object_Check_2.f a0_0 a0_1 a0_2 = some r) :
    Calls Tryd.prog 74 #[.agg #[.int .u8 a0_0, .int .u16 a0_1, .int .u16 a0_2]] w fun e w' => e = .returned (.bool r) ∧ Below w.heap.size w w' := by
  have hu43 := Tryd.underlying43
  have HB := Aside0.mk (Below.refl w.heap.size w)
  have H : (some (decide (a0_0 > 7))) = some r := h
  clear h
  obtain rfl := Option.some.inj H
  go_enter Tryd.func74, Tryd.ntmps74
  go_wp2_with (first | ((with_reducible refine gate_dst (N := 1) rfl ?_); refine box_event ?hg (N := 1) ?hd (cs := #[.int .u8 a0_0, .int .u16 a0_1, .int .u16 a0_2]) (t := 43) ?hr ?_; (case hd => rfl); (case hg => rfl); (case hr => first | (go_simp; done) | (go_simp; rfl)); intro gb101 hg w2 hbox hb; have n0_ := Aside0.mk (below_step (by repeat (first | (with_reducible first | exact HB.out | apply below_alloc | apply pw_below_drewN | apply below_drew1) | exact HB.out)) hb); have n1_ := Aside0.mk (hbox); have n2_ := Aside0.mk ((by rw [hg]; exact (below_size (by repeat (first | (with_reducible first | exact HB.out | apply below_alloc | apply pw_below_drewN | apply below_drew1) | exact HB.out))) : w.heap.size ≤ gb101)); have n3_ := Aside0.mk ((by rw [hg]; exact (below_size (by repeat (first | (with_reducible first | exact HB.out | apply below_alloc | apply pw_below_drewN | apply below_drew1) | exact HB.out))) : w.heap.size ≤ gb101)); clear HB; have HB := n0_; have BK101 := n1_; have GW101 := n2_; have GE101 := n3_; clear n0_ n1_ n2_ n3_; clear hb hbox hg; have hcz3_0 : w2.cell? ⟨gb101, 0, none⟩ = some (.int .u8 a0_0) := (blk_cell BK101.out 0).trans rfl; have hcz3_1 : w2.cell? ⟨gb101, 1, none⟩ = some (.int .u16 a0_1) := (blk_cell BK101.out 1).trans rfl; have hcz3_2 : w2.cell? ⟨gb101, 2, none⟩ = some (.int .u16 a0_2) := (blk_cell BK101.out 2).trans rfl; have hfz3_0 := blk_frozen BK101.out 0; have hfz3_1 := blk_frozen BK101.out 1; have hfz3_2 := blk_frozen BK101.out 2))
  go_ret
  exact ⟨by first | rfl | (simp [errW_none, errW_some] <;> rfl) | (simp [*, errW_none, errW_some] <;> rfl), by repeat (first | (with_reducible first | exact HB.out | apply below_alloc | apply pw_below_drewN | apply below_drew1 | refine below_set ?_ GE101.out) | exact HB.out)⟩

end Go.Proofs.YtiphindialkmnaaDoor.X
end
section
namespace Go.Proofs.YtiphindialkmnaaDoor.X
open Go.RowKit Go.Proofs.YtiphindialkmnaaDoorW.PrintWords Go.Proofs.YtiphindialkmnaaDoorW.PrintLast Go.Proofs.YtiphindialkmnaaDoorW.PrintMore
attribute [local go_sem] max2_int min2_int max_two min_two max_three min_three max_four min_four
set_option linter.unusedVariables false
set_option linter.unusedSimpArgs false

/-! ### IndexFunc_kind: function 78 -/
def IndexFunc_kind.l0 : Nat → List (S43) → Int → Int → Option (Int)
  | 0, _, _, _ => none
  | k + 1, x0, x7, x8 => if x8 < x7 then (if 0 ≤ x8 then (if x8 < (x0.length : Int) then ((object_Check_2.f ((rd_T43 x0 x8).f0) ((rd_T43 x0 x8).f1) ((rd_T43 x0 x8).f2)).bind fun t102 => (if t102 = true then (some x8) else (IndexFunc_kind.l0 k x0 x7 (wrap64 (x8 + 1))))) else (none)) else (none)) else (some (-1))
def IndexFunc_kind.f (k : Nat) (l0 : List (S43)) (a1 : Unit) : Option (Int) := IndexFunc_kind.l0 k l0 (l0.length : Int) 0
theorem IndexFunc_kind.mono_l : ∀ k, (∀ y0 y1 y2, LeO (IndexFunc_kind.l0 k y0 y1 y2) (IndexFunc_kind.l0 (k + 1) y0 y1 y2))
  | 0 => fun _ _ _ r h => by simp [IndexFunc_kind.l0] at h
  | k + 1 => by
    have ih0 := IndexFunc_kind.mono_l k
    · intro y0 y1 y2
      unfold IndexFunc_kind.l0
      repeat' first
      | (with_reducible exact ih0 _ _ _)
      | (with_reducible exact LeO.refl _)
      | (with_reducible exact LeO.none _)
      | (with_reducible refine LeO.ite ?_ ?_)
      | (with_reducible refine LeO.bind ?_ (fun _ => ?_))
      | exact ih0 _ _ _
      | exact LeO.none _
      | refine LeO.ite ?_ ?_
      | refine LeO.bind ?_ (fun _ => ?_)
theorem IndexFunc_kind.mono : ∀ a0 a1 k, LeO (IndexFunc_kind.f k a0 a1) (IndexFunc_kind.f (k + 1) a0 a1) := by
  intro a0 a1 k
  have ih0 := IndexFunc_kind.mono_l k
  unfold IndexFunc_kind.f
  repeat' first
      | (with_reducible exact ih0 _ _ _)
      | (with_reducible exact LeO.refl _)
      | (with_reducible exact LeO.none _)
      | (with_reducible refine LeO.ite ?_ ?_)
      | (with_reducible refine LeO.bind ?_ (fun _ => ?_))
      | exact ih0 _ _ _
      | exact LeO.none _
      | refine LeO.ite ?_ ?_
      | refine LeO.bind ?_ (fun _ => ?_)
set_option maxHeartbeats 8000000 in
set_option maxRecDepth 100000 in
theorem IndexFunc_kind.calls (k : Nat) (A0 : Option Addr) (c0 : Nat) (l0 : List (S43)) (a1 : Unit) (r : Int) (w : World) (hr0 : Kd.C k43 w A0 l0.length l0) (hc0 : l0.length ≤ c0) (h : IndexFunc_kind.f k l0 a1 = some r) :
    Calls Tryd.prog 78 #[.slice A0 l0.length c0, .func (.func 74) #[] #[]] w fun e w' => e = .returned (.int .i64 r) ∧ Below w.heap.size w w' := by
  have hu43 := Tryd.underlying43
  have HR0 := Aside0.mk hr0
  have HC0 := Aside0.mk hc0
  clear hr0 hc0
  have HB := Aside0.mk (Below.refl w.heap.size w)
  have H : (IndexFunc_kind.l0 k l0 (l0.length : Int) 0) = some r := h
  clear h
  have H' := Aside0.mk H
  clear H
  go_enter Tryd.func78, Tryd.ntmps78
  go_wp2
  go_loopg [8] k (fun kq v8 w' => ∃ (x8_1 : Int), v8 = .int .i64 x8_1 ∧ Aside0 (IndexFunc_kind.l0 kq l0 (l0.length : Int) x8_1 = some r) ∧ Aside0 (kq ≤ k) ∧ Aside0 (Below w.heap.size w w'))
  case atStart => exact ⟨(0), (by first | rfl | (simp; done) | (simp [*]; done)), H', ⟨Nat.le_refl _⟩, ⟨by repeat (first | (with_reducible first | exact HB.out | apply below_alloc | apply pw_below_drewN | apply below_drew1) | exact HB.out)⟩⟩
  case round =>
    clear H'
    try clear p2
    obtain ⟨x8_1, rfl, HA, HK1, HB⟩ := hrel
    cases gk with
    | zero => exact absurd HA.out (by simp [IndexFunc_kind.l0])
    | succ k1 =>
      have H := HA.out
      clear HA
      simp only [IndexFunc_kind.l0] at H
      by_cases c3 : x8_1 < (l0.length : Int)
      · rw [if_pos c3] at H
        have c3b0 : decide (x8_1 < (l0.length : Int)) = true := decide_eq_true c3
        clear c3
        by_cases c4 : 0 ≤ x8_1
        · rw [if_pos c4] at H
          have c4b0 : decide (0 ≤ x8_1) = true := decide_eq_true c4
          clear c4
          by_cases c5 : x8_1 < (l0.length : Int)
          · rw [if_pos c5] at H
            have c5b0 : decide (x8_1 < (l0.length : Int)) = true := decide_eq_true c5
            clear c5
            replace H := Option.bind_eq_some_iff.mp H
            obtain ⟨t102, A60, H⟩ := H
            replace H : (if t102 = true then (some x8_1) else (IndexFunc_kind.l0 k1 l0 (l0.length : Int) (wrap64 (x8_1 + 1)))) = some r := H
            have A6 := Aside0.mk A60
            clear A60
            by_cases c7 : t102 = true
            · subst c7
              have H1 : (some x8_1) = some r := by rw [if_pos rfl] at H; exact H
              clear H
              have H := H1
              clear H1
              obtain rfl := Option.some.inj H
              have p101 : 0 ≤ (x8_1 : Int) := of_decide_eq_true (by first | (with_reducible assumption) | assumption)
              have q101 : x8_1 < (l0.length : Int) := of_decide_eq_true (by first | (with_reducible assumption) | assumption)
              obtain ⟨ad101, e101, hx101_0, hx101_1, hx101_2⟩ := at_T43 HR0.out x8_1 p101 q101
              cases e101
              replace hx101_0 := (HB.out.cell (World.block_lt_of_cell? w _ hx101_0)).trans hx101_0
              replace hx101_1 := (HB.out.cell (World.block_lt_of_cell? w _ hx101_1)).trans hx101_1
              replace hx101_2 := (HB.out.cell (World.block_lt_of_cell? w _ hx101_2)).trans hx101_2
              replace p101 := eq_true p101
              replace q101 := eq_true q101
              go_wp2_with (first | (go_at_call 74; (with_reducible refine (object_Check_2.calls ((rd_T43 l0 x8_1).f0) ((rd_T43 l0 x8_1).f1) ((rd_T43 l0 x8_1).f2) true _ A6.out).mono ?_); rintro e w8 ⟨rfl, hb⟩; have n0_ := Aside0.mk (below_step (by repeat (first | (with_reducible first | exact HB.out | apply below_alloc | apply pw_below_drewN | apply below_drew1) | exact HB.out)) hb); clear HB; have HB := n0_; clear n0_; (try clear hb); (try clear hb2); (try clear hk); (try clear hi)))
              go_ret
              exact ⟨by first | rfl | (simp [errW_none, errW_some] <;> rfl) | (simp [*, errW_none, errW_some] <;> rfl), by repeat (first | (with_reducible first | exact HB.out | apply below_alloc | apply pw_below_drewN | apply below_drew1) | exact HB.out)⟩
            · replace c7 := Bool.eq_false_iff.mpr c7
              subst c7
              have H1 : (IndexFunc_kind.l0 k1 l0 (l0.length : Int) (wrap64 (x8_1 + 1))) = some r := by rw [if_neg (show ¬ (false = true) by decide)] at H; exact H
              clear H
              have H := H1
              clear H1
              have H' := Aside0.mk H
              clear H
              have p101 : 0 ≤ (x8_1 : Int) := of_decide_eq_true (by first | (with_reducible assumption) | assumption)
              have q101 : x8_1 < (l0.length : Int) := of_decide_eq_true (by first | (with_reducible assumption) | assumption)
              obtain ⟨ad101, e101, hx101_0, hx101_1, hx101_2⟩ := at_T43 HR0.out x8_1 p101 q101
              cases e101
              replace hx101_0 := (HB.out.cell (World.block_lt_of_cell? w _ hx101_0)).trans hx101_0
              replace hx101_1 := (HB.out.cell (World.block_lt_of_cell? w _ hx101_1)).trans hx101_1
              replace hx101_2 := (HB.out.cell (World.block_lt_of_cell? w _ hx101_2)).trans hx101_2
              replace p101 := eq_true p101
              replace q101 := eq_true q101
              go_wp2_with (first | (go_at_call 74; (with_reducible refine (object_Check_2.calls ((rd_T43 l0 x8_1).f0) ((rd_T43 l0 x8_1).f1) ((rd_T43 l0 x8_1).f2) false _ A6.out).mono ?_); rintro e w9 ⟨rfl, hb⟩; have n0_ := Aside0.mk (below_step (by repeat (first | (with_reducible first | exact HB.out | apply below_alloc | apply pw_below_drewN | apply below_drew1) | exact HB.out)) hb); clear HB; have HB := n0_; clear n0_; (try clear hb); (try clear hb2); (try clear hk); (try clear hi)))
              go_roundg k1
              case measure => have := HK1.out; omega
              case rel => exact ⟨(wrap64 (x8_1 + 1)), (by first | rfl | (simp; done) | (simp [*]; done)), H', ⟨by have := HK1.out; omega⟩, ⟨by repeat (first | (with_reducible first | exact HB.out | apply below_alloc | apply pw_below_drewN | apply below_drew1) | exact HB.out)⟩⟩
          · rw [if_neg c5] at H
            exact absurd H (by simp)
        · rw [if_neg c4] at H
          exact absurd H (by simp)
      · rw [if_neg c3] at H
        have c3b0 : decide (x8_1 < (l0.length : Int)) = false := decide_eq_false c3
        clear c3
        obtain rfl := Option.some.inj H
        go_wp2
        go_ret
        exact ⟨by first | rfl | (simp [errW_none, errW_some] <;> rfl) | (simp [*, errW_none, errW_some] <;> rfl), by repeat (first | (with_reducible first | exact HB.out | apply below_alloc | apply pw_below_drewN | apply below_drew1) | exact HB.out)⟩

end Go.Proofs.YtiphindialkmnaaDoor.X
end
section
namespace Go.Proofs.YtiphindialkmnaaDoor.X
open Go.RowKit Go.Proofs.YtiphindialkmnaaDoorW.PrintWords Go.Proofs.YtiphindialkmnaaDoorW.PrintLast Go.Proofs.YtiphindialkmnaaDoorW.PrintMore
attribute [local go_sem] max2_int min2_int max_two min_two max_three min_three max_four min_four
set_option linter.unusedVariables false
set_option linter.unusedSimpArgs false

/-! ### ContainsFunc_kind: function 73 -/
def ContainsFunc_kind.f (k : Nat) (l0 : List (S43)) (a1 : Unit) : Option (Bool) := (IndexFunc_kind.f k l0 a1).bind fun t101 => (some (decide (t101 ≥ 0)))
theorem ContainsFunc_kind.mono : ∀ a0 a1 k, LeO (ContainsFunc_kind.f k a0 a1) (ContainsFunc_kind.f (k + 1) a0 a1) := by
  intro a0 a1 k
  unfold ContainsFunc_kind.f
  repeat' first
      | (with_reducible exact IndexFunc_kind.mono _ _ _)
      | (with_reducible exact LeO.refl _)
      | (with_reducible exact LeO.none _)
      | (with_reducible refine LeO.ite ?_ ?_)
      | (with_reducible refine LeO.bind ?_ (fun _ => ?_))
      | exact IndexFunc_kind.mono _ _ _
      | exact LeO.none _
      | refine LeO.ite ?_ ?_
      | refine LeO.bind ?_ (fun _ => ?_)
set_option maxHeartbeats 8000000 in
set_option maxRecDepth 100000 in
theorem ContainsFunc_kind.calls (k : Nat) (A0 : Option Addr) (c0 : Nat) (l0 : List (S43)) (a1 : Unit) (r : Bool) (w : World) (hr0 : Kd.C k43 w A0 l0.length l0) (hc0 : l0.length ≤ c0) (h : ContainsFunc_kind.f k l0 a1 = some r) :
    Calls Tryd.prog 73 #[.slice A0 l0.length c0, .func (.func 74) #[] #[]] w fun e w' => e = .returned (.bool r) ∧ Below w.heap.size w w' := by
  have HR0 := Aside0.mk hr0
  have HC0 := Aside0.mk hc0
  clear hr0 hc0
  have HB := Aside0.mk (Below.refl w.heap.size w)
  have H : ((IndexFunc_kind.f k l0 a1).bind fun t101 => (some (decide (t101 ≥ 0)))) = some r := h
  clear h
  replace H := Option.bind_eq_some_iff.mp H
  obtain ⟨t101, A30, H⟩ := H
  replace H : (some (decide (t101 ≥ 0))) = some r := H
  have A3 := Aside0.mk A30
  clear A30
  obtain rfl := Option.some.inj H
  go_enter Tryd.func73, Tryd.ntmps73
  go_wp2_with (first | ((with_reducible refine gate_callee (f := 78) rfl ?_); refine goesL_ (some 7) rfl rfl Tryd.func78 (by kernel_rfl) rfl #[.slice A0 l0.length c0, .func (.func 74) #[] #[]] rfl (by (try simp only [List.map_toArray, List.map_cons, List.map_nil]); first | done | rfl | (simp only [List.length_drop, List.length_take]; rfl)) ?_; (with_reducible refine (IndexFunc_kind.calls k _ _ l0 a1 t101 _ ?side1 ?side2 A3.out).mono ?_); (case side1 => repeat (first | exact HR0.out | (with_reducible refine Kd.C_alloc ?_ _) | (with_reducible refine Kd.C_drewN ?_ _) | (with_reducible refine Kd.C_drew ?_))); (case side2 => exact HC0.out); rintro e w4 ⟨rfl, hb⟩; refine ⟨_, rfl, ?_⟩; have n0_ := Aside0.mk (below_step (by repeat (first | (with_reducible first | exact HB.out | apply below_alloc | apply pw_below_drewN | apply below_drew1) | exact HB.out)) hb); clear HB; have HB := n0_; clear n0_; (try clear hb); (try clear hb2); (try clear hk); (try clear hi)))
  go_ret
  exact ⟨by first | rfl | (simp [errW_none, errW_some] <;> rfl) | (simp [*, errW_none, errW_some] <;> rfl), by repeat (first | (with_reducible first | exact HB.out | apply below_alloc | apply pw_below_drewN | apply below_drew1) | exact HB.out)⟩

end Go.Proofs.YtiphindialkmnaaDoor.X
end
section
namespace Go.Proofs.YtiphindialkmnaaDoor.X
open Go.RowKit Go.Proofs.YtiphindialkmnaaDoorW.PrintWords Go.Proofs.YtiphindialkmnaaDoorW.PrintLast Go.Proofs.YtiphindialkmnaaDoorW.PrintMore
attribute [local go_sem] max2_int min2_int max_two min_two max_three min_three max_four min_four
set_option linter.unusedVariables false
set_option linter.unusedSimpArgs false

/-! ### object_Check: function 37 -/
mutual
def object_Check.j0 : Nat → Unit → Bool → ByteArray → List ByteArray → List ByteArray → List Int → List Int → List (S43) → Option (Int)
 | 0, _, _, _, _, _, _, _, _ => none
 | k + 1, x3, x4, x102000, x102001, x102002, x102003, x102004, x102005 => if x4 = true then (some 5) else (if (x102003.length : Int) > 512 then (object_Check.j1 k x3 true x102000 x102001 x102002 x102003 x102004 x102005) else (object_Check.j1 k x3 (decide ((x102004.length : Int) > 128)) x102000 x102001 x102002 x102003 x102004 x102005))
def object_Check.j1 : Nat → Unit → Bool → ByteArray → List ByteArray → List ByteArray → List Int → List Int → List (S43) → Option (Int)
 | 0, _, _, _, _, _, _, _, _ => none
 | k + 1, x3, x21, x102000, x102001, x102002, x102003, x102004, x102005 => if x21 = true then (some 5) else ((object_Check_1.f x102000).bind fun t102 => (if t102 = true then (object_Check.j2 k true x102000 x102001 x102002 x102003 x102004 x102005) else ((ContainsFunc_long.f k x102001 x3).bind fun t103 => (if t103 = true then (object_Check.j2 k true x102000 x102001 x102002 x102003 x102004 x102005) else ((ContainsFunc_long.f k x102002 x3).bind fun t104 => (object_Check.j2 k t104 x102000 x102001 x102002 x102003 x102004 x102005))))))
def object_Check.j2 : Nat → Bool → ByteArray → List ByteArray → List ByteArray → List Int → List Int → List (S43) → Option (Int)
 | 0, _, _, _, _, _, _, _ => none
 | k + 1, x32, x102000, x102001, x102002, x102003, x102004, x102005 => if x32 = true then (some 5) else ((ContainsFunc_kind.f k x102005 ()).bind fun t105 => (if t105 = true then (some 2) else (some 0)))
end
def object_Check.f (k : Nat) (a0_0 : ByteArray) (l0_1 : List ByteArray) (l0_2 : List ByteArray) (l0_3 : List Int) (l0_4 : List Int) (l0_5 : List (S43)) : Option (Int) := if (l0_1.length : Int) > 8 then (object_Check.j0 k () true a0_0 l0_1 l0_2 l0_3 l0_4 l0_5) else (if (l0_2.length : Int) > 16 then (object_Check.j0 k () true a0_0 l0_1 l0_2 l0_3 l0_4 l0_5) else (object_Check.j0 k () (decide ((l0_5.length : Int) > 256)) a0_0 l0_1 l0_2 l0_3 l0_4 l0_5))
theorem object_Check.mono_l : ∀ k, (∀ y0 y1 y2 y3 y4 y5 y6 y7, LeO (object_Check.j0 k y0 y1 y2 y3 y4 y5 y6 y7) (object_Check.j0 (k + 1) y0 y1 y2 y3 y4 y5 y6 y7)) ∧ (∀ y0 y1 y2 y3 y4 y5 y6 y7, LeO (object_Check.j1 k y0 y1 y2 y3 y4 y5 y6 y7) (object_Check.j1 (k + 1) y0 y1 y2 y3 y4 y5 y6 y7)) ∧ (∀ y0 y1 y2 y3 y4 y5 y6, LeO (object_Check.j2 k y0 y1 y2 y3 y4 y5 y6) (object_Check.j2 (k + 1) y0 y1 y2 y3 y4 y5 y6))
 | 0 => ⟨fun _ _ _ _ _ _ _ _ r h => by simp [object_Check.j0] at h, fun _ _ _ _ _ _ _ _ r h => by simp [object_Check.j1] at h, fun _ _ _ _ _ _ _ r h => by simp [object_Check.j2] at h⟩
 | k + 1 => by
  obtain ⟨ih0, ih1, ih2⟩ := object_Check.mono_l k
  refine ⟨?_, ?_, ?_⟩
  ·intro y0 y1 y2 y3 y4 y5 y6 y7
   unfold object_Check.j0
   repeat' first
   | (with_reducible exact ih0 _ _ _ _ _ _ _ _)
   | (with_reducible exact ih1 _ _ _ _ _ _ _ _)
   | (with_reducible exact ih2 _ _ _ _ _ _ _)
   | (with_reducible exact ContainsFunc_kind.mono _ _ _)
   | (with_reducible exact ContainsFunc_long.mono _ _ _)
   | (with_reducible exact LeO.refl _)
   | (with_reducible exact LeO.none _)
   | (with_reducible refine LeO.ite ?_ ?_)
   | (with_reducible refine LeO.bind ?_ (fun _ => ?_))
   | exact ih0 _ _ _ _ _ _ _ _
   | exact ih1 _ _ _ _ _ _ _ _
   | exact ih2 _ _ _ _ _ _ _
   | exact ContainsFunc_kind.mono _ _ _
   | exact ContainsFunc_long.mono _ _ _
   | exact LeO.none _
   | refine LeO.ite ?_ ?_
   | refine LeO.bind ?_ (fun _ => ?_)
  ·intro y0 y1 y2 y3 y4 y5 y6 y7
   unfold object_Check.j1
   repeat' first
   | (with_reducible exact ih0 _ _ _ _ _ _ _ _)
   | (with_reducible exact ih1 _ _ _ _ _ _ _ _)
   | (with_reducible exact ih2 _ _ _ _ _ _ _)
   | (with_reducible exact ContainsFunc_kind.mono _ _ _)
   | (with_reducible exact ContainsFunc_long.mono _ _ _)
   | (with_reducible exact LeO.refl _)
   | (with_reducible exact LeO.none _)
   | (with_reducible refine LeO.ite ?_ ?_)
   | (with_reducible refine LeO.bind ?_ (fun _ => ?_))
   | exact ih0 _ _ _ _ _ _ _ _
   | exact ih1 _ _ _ _ _ _ _ _
   | exact ih2 _ _ _ _ _ _ _
   | exact ContainsFunc_kind.mono _ _ _
   | exact ContainsFunc_long.mono _ _ _
   | exact LeO.none _
   | refine LeO.ite ?_ ?_
   | refine LeO.bind ?_ (fun _ => ?_)
  ·intro y0 y1 y2 y3 y4 y5 y6
   unfold object_Check.j2
   repeat' first
   | (with_reducible exact ih0 _ _ _ _ _ _ _ _)
   | (with_reducible exact ih1 _ _ _ _ _ _ _ _)
   | (with_reducible exact ih2 _ _ _ _ _ _ _)
   | (with_reducible exact ContainsFunc_kind.mono _ _ _)
   | (with_reducible exact ContainsFunc_long.mono _ _ _)
   | (with_reducible exact LeO.refl _)
   | (with_reducible exact LeO.none _)
   | (with_reducible refine LeO.ite ?_ ?_)
   | (with_reducible refine LeO.bind ?_ (fun _ => ?_))
   | exact ih0 _ _ _ _ _ _ _ _
   | exact ih1 _ _ _ _ _ _ _ _
   | exact ih2 _ _ _ _ _ _ _
   | exact ContainsFunc_kind.mono _ _ _
   | exact ContainsFunc_long.mono _ _ _
   | exact LeO.none _
   | refine LeO.ite ?_ ?_
   | refine LeO.bind ?_ (fun _ => ?_)
theorem object_Check.mono : ∀ a0 a1 a2 a3 a4 a5 k, LeO (object_Check.f k a0 a1 a2 a3 a4 a5) (object_Check.f (k + 1) a0 a1 a2 a3 a4 a5) := by
 intro a0 a1 a2 a3 a4 a5 k
 obtain ⟨ih0, ih1, ih2⟩ := object_Check.mono_l k
 unfold object_Check.f
 repeat' first
   | (with_reducible exact ih0 _ _ _ _ _ _ _ _)
   | (with_reducible exact ih1 _ _ _ _ _ _ _ _)
   | (with_reducible exact ih2 _ _ _ _ _ _ _)
   | (with_reducible exact ContainsFunc_kind.mono _ _ _)
   | (with_reducible exact ContainsFunc_long.mono _ _ _)
   | (with_reducible exact LeO.refl _)
   | (with_reducible exact LeO.none _)
   | (with_reducible refine LeO.ite ?_ ?_)
   | (with_reducible refine LeO.bind ?_ (fun _ => ?_))
   | exact ih0 _ _ _ _ _ _ _ _
   | exact ih1 _ _ _ _ _ _ _ _
   | exact ih2 _ _ _ _ _ _ _
   | exact ContainsFunc_kind.mono _ _ _
   | exact ContainsFunc_long.mono _ _ _
   | exact LeO.none _
   | refine LeO.ite ?_ ?_
   | refine LeO.bind ?_ (fun _ => ?_)
set_option maxHeartbeats 8000000 in
set_option maxRecDepth 100000 in
theorem object_Check.calls (k : Nat) (a0_0 : ByteArray) (A0_1 : Option Addr) (c0_1 : Nat) (l0_1 : List ByteArray) (A0_2 : Option Addr) (c0_2 : Nat) (l0_2 : List ByteArray) (A0_3 : Option Addr) (c0_3 : Nat) (l0_3 : List Int) (A0_4 : Option Addr) (c0_4 : Nat) (l0_4 : List Int) (A0_5 : Option Addr) (c0_5 : Nat) (l0_5 : List (S43)) (r : Int) (w : World) (hr0_1 : Kd.C Kd.string w A0_1 l0_1.length l0_1) (hc0_1 : l0_1.length ≤ c0_1) (hr0_2 : Kd.C Kd.string w A0_2 l0_2.length l0_2) (hc0_2 : l0_2.length ≤ c0_2) (hr0_3 : Kd.C (Kd.int .u32) w A0_3 l0_3.length l0_3) (hc0_3 : l0_3.length ≤ c0_3) (hr0_4 : Kd.C (Kd.int .u32) w A0_4 l0_4.length l0_4) (hc0_4 : l0_4.length ≤ c0_4) (hr0_5 : Kd.C k43 w A0_5 l0_5.length l0_5) (hc0_5 : l0_5.length ≤ c0_5) (h : object_Check.f k a0_0 l0_1 l0_2 l0_3 l0_4 l0_5 = some r) :
  Calls Tryd.prog 37 #[.agg #[.string a0_0, .slice A0_1 l0_1.length c0_1, .slice A0_2 l0_2.length c0_2, .slice A0_3 l0_3.length c0_3, .slice A0_4 l0_4.length c0_4, .slice A0_5 l0_5.length c0_5]] w fun e w' => e = .returned (.int .i64 r) ∧ Below w.heap.size w w' := by
 have hu26 := Tryd.underlying26
 have HR0_1 := Aside0.mk hr0_1
 have HC0_1 := Aside0.mk hc0_1
 clear hr0_1 hc0_1
 have HR0_2 := Aside0.mk hr0_2
 have HC0_2 := Aside0.mk hc0_2
 clear hr0_2 hc0_2
 have HR0_3 := Aside0.mk hr0_3
 have HC0_3 := Aside0.mk hc0_3
 clear hr0_3 hc0_3
 have HR0_4 := Aside0.mk hr0_4
 have HC0_4 := Aside0.mk hc0_4
 clear hr0_4 hc0_4
 have HR0_5 := Aside0.mk hr0_5
 have HC0_5 := Aside0.mk hc0_5
 clear hr0_5 hc0_5
 have HB := Aside0.mk (Below.refl w.heap.size w)
 have H : (if (l0_1.length : Int) > 8 then (object_Check.j0 k () true a0_0 l0_1 l0_2 l0_3 l0_4 l0_5) else (if (l0_2.length : Int) > 16 then (object_Check.j0 k () true a0_0 l0_1 l0_2 l0_3 l0_4 l0_5) else (object_Check.j0 k () (decide ((l0_5.length : Int) > 256)) a0_0 l0_1 l0_2 l0_3 l0_4 l0_5))) = some r := h
 clear h
 have HC2 := Aside0.mk H
 clear H
 go_enter Tryd.func37, Tryd.ntmps37
 go_upto_region 2 with (first | ((with_reducible refine gate_dst (N := 1) rfl ?_); (try (refine gate_guard (by rfl) ?_; dsimp only)); refine box_event ?hg (N := 1) ?hd (cs := #[.string a0_0, .slice A0_1 l0_1.length c0_1, .slice A0_2 l0_2.length c0_2, .slice A0_3 l0_3.length c0_3, .slice A0_4 l0_4.length c0_4, .slice A0_5 l0_5.length c0_5]) (t := 26) ?hr ?_; (case hd => rfl); (case hg => rfl); (case hr => first | (go_simp; done) | (go_simp; rfl)); intro gb101 hg w3 hbox hb; have n0_ := Aside0.mk (below_step (tg HB.out) hb); have n1_ := Aside0.mk (hbox); have n2_ := Aside0.mk ((by rw [hg]; exact (below_size (tg HB.out)) : w.heap.size ≤ gb101)); have n3_ := Aside0.mk ((by rw [hg]; exact (below_size (tg HB.out)) : w.heap.size ≤ gb101)); clear HB; have HB := n0_; have BK101 := n1_; have GW101 := n2_; have GE101 := n3_; clear n0_ n1_ n2_ n3_; clear hb hbox hg))
 (try simp only [Act.put, List.setIfInBounds_toArray, List.set_cons_zero, List.set_cons_succ])
 go_cut [4] (fun v4 wc => ∃ (kq : Nat) (x4_1 : Bool), v4 = .bool x4_1 ∧ Aside0 (object_Check.j0 kq () x4_1 a0_0 l0_1 l0_2 l0_3 l0_4 l0_5 = some r) ∧ Aside0 (kq ≤ k) ∧ Aside0 (wc.heap[gb101]? = some (.cells #[.string a0_0, (.slice A0_1 l0_1.length c0_1), (.slice A0_2 l0_2.length c0_2), (.slice A0_3 l0_3.length c0_3), (.slice A0_4 l0_4.length c0_4), (.slice A0_5 l0_5.length c0_5)] 26 (0, 0))) ∧ Aside0 (Below w.heap.size w wc))
 case first =>
  have H := HC2.out
  clear HC2
  by_cases c4 : (l0_1.length : Int) > 8
  ·rw [if_pos c4] at H
   have c4b0 : decide (8 < (l0_1.length : Int)) = true := decide_eq_true c4
   have c4b1 : decide (8 < l0_1.length) = true := decide_eq_true (by omega)
   clear c4
   (first | rw [c4b0] | (simp only [i64_w, i32_w]; rw [c4b0]) | skip)
   have H' := Aside0.mk H
   clear H
   have hcz5_0 := cz BK101.out 0 (.string a0_0)
   have hcz5_1 := cz BK101.out 1 (.slice A0_1 l0_1.length c0_1)
   have hcz5_2 := cz BK101.out 2 (.slice A0_2 l0_2.length c0_2)
   have hcz5_3 := cz BK101.out 3 (.slice A0_3 l0_3.length c0_3)
   have hcz5_4 := cz BK101.out 4 (.slice A0_4 l0_4.length c0_4)
   have hcz5_5 := cz BK101.out 5 (.slice A0_5 l0_5.length c0_5)
   have hfz5_0 := blk_frozen BK101.out 0
   have hfz5_1 := blk_frozen BK101.out 1
   have hfz5_2 := blk_frozen BK101.out 2
   have hfz5_3 := blk_frozen BK101.out 3
   have hfz5_4 := blk_frozen BK101.out 4
   have hfz5_5 := blk_frozen BK101.out 5
   go_wp2
   go_meet
   case rel => exact ⟨_, (true), (by first | rfl | (simp; done) | (simp [*]; done)), H', ⟨by first | omega | exact Nat.le_refl _⟩, ⟨by (with_reducible repeat (first | refine blk_drewN ?_ _ | refine blk_drew ?_ | refine blk_alloc ?_ _)); exact BK101.out⟩, ⟨tg1 HB.out GE101.out⟩⟩
  ·rw [if_neg c4] at H
   have c4b0 : decide (8 < (l0_1.length : Int)) = false := decide_eq_false c4
   have c4b1 : decide (8 < l0_1.length) = false := decide_eq_false (by omega)
   clear c4
   (first | rw [c4b0] | (simp only [i64_w, i32_w]; rw [c4b0]) | skip)
   by_cases c6 : (l0_2.length : Int) > 16
   ·rw [if_pos c6] at H
    have c6b0 : decide (16 < (l0_2.length : Int)) = true := decide_eq_true c6
    have c6b1 : decide (16 < l0_2.length) = true := decide_eq_true (by omega)
    clear c6
    have H' := Aside0.mk H
    clear H
    have hcz7_0 := cz BK101.out 0 (.string a0_0)
    have hcz7_1 := cz BK101.out 1 (.slice A0_1 l0_1.length c0_1)
    have hcz7_2 := cz BK101.out 2 (.slice A0_2 l0_2.length c0_2)
    have hcz7_3 := cz BK101.out 3 (.slice A0_3 l0_3.length c0_3)
    have hcz7_4 := cz BK101.out 4 (.slice A0_4 l0_4.length c0_4)
    have hcz7_5 := cz BK101.out 5 (.slice A0_5 l0_5.length c0_5)
    have hfz7_0 := blk_frozen BK101.out 0
    have hfz7_1 := blk_frozen BK101.out 1
    have hfz7_2 := blk_frozen BK101.out 2
    have hfz7_3 := blk_frozen BK101.out 3
    have hfz7_4 := blk_frozen BK101.out 4
    have hfz7_5 := blk_frozen BK101.out 5
    go_wp2
    go_meet
    case rel => exact ⟨_, (true), (by first | rfl | (simp; done) | (simp [*]; done)), H', ⟨by first | omega | exact Nat.le_refl _⟩, ⟨by (with_reducible repeat (first | refine blk_drewN ?_ _ | refine blk_drew ?_ | refine blk_alloc ?_ _)); exact BK101.out⟩, ⟨tg1 HB.out GE101.out⟩⟩
   ·rw [if_neg c6] at H
    have c6b0 : decide (16 < (l0_2.length : Int)) = false := decide_eq_false c6
    have c6b1 : decide (16 < l0_2.length) = false := decide_eq_false (by omega)
    clear c6
    have H' := Aside0.mk H
    clear H
    have hcz8_0 := cz BK101.out 0 (.string a0_0)
    have hcz8_1 := cz BK101.out 1 (.slice A0_1 l0_1.length c0_1)
    have hcz8_2 := cz BK101.out 2 (.slice A0_2 l0_2.length c0_2)
    have hcz8_3 := cz BK101.out 3 (.slice A0_3 l0_3.length c0_3)
    have hcz8_4 := cz BK101.out 4 (.slice A0_4 l0_4.length c0_4)
    have hcz8_5 := cz BK101.out 5 (.slice A0_5 l0_5.length c0_5)
    have hfz8_0 := blk_frozen BK101.out 0
    have hfz8_1 := blk_frozen BK101.out 1
    have hfz8_2 := blk_frozen BK101.out 2
    have hfz8_3 := blk_frozen BK101.out 3
    have hfz8_4 := blk_frozen BK101.out 4
    have hfz8_5 := blk_frozen BK101.out 5
    go_wp2
    go_meet
    case rel => exact ⟨_, (decide ((l0_5.length : Int) > 256)), (by first | rfl | (simp; done) | (simp [*]; done)), H', ⟨by first | omega | exact Nat.le_refl _⟩, ⟨by (with_reducible repeat (first | refine blk_drewN ?_ _ | refine blk_drew ?_ | refine blk_alloc ?_ _)); exact BK101.out⟩, ⟨tg1 HB.out GE101.out⟩⟩
 case rest =>
  clear HC2
  try clear p2
  try clear c3
  try clear c4
  try clear c4b0
  try clear c4b1
  try clear c6
  try clear c6b0
  try clear c6b1
  try clear hcz5_0
  try clear hcz5_1
  try clear hcz5_2
  try clear hcz5_3
  try clear hcz5_4
  try clear hcz5_5
  try clear hcz7_0
  try clear hcz7_1
  try clear hcz7_2
  try clear hcz7_3
  try clear hcz7_4
  try clear hcz7_5
  try clear hcz8_0
  try clear hcz8_1
  try clear hcz8_2
  try clear hcz8_3
  try clear hcz8_4
  try clear hcz8_5
  try clear hfz5_0
  try clear hfz5_1
  try clear hfz5_2
  try clear hfz5_3
  try clear hfz5_4
  try clear hfz5_5
  try clear hfz7_0
  try clear hfz7_1
  try clear hfz7_2
  try clear hfz7_3
  try clear hfz7_4
  try clear hfz7_5
  try clear hfz8_0
  try clear hfz8_1
  try clear hfz8_2
  try clear hfz8_3
  try clear hfz8_4
  try clear hfz8_5
  obtain ⟨kq, x4_1, rfl, HA, HJ1, BK101, HB⟩ := hcut
  cases kq with
  | zero => exact absurd HA.out (by simp [object_Check.j0])
  | succ kj1 =>
   have H := HA.out
   clear HA
   simp only [object_Check.j0] at H
   by_cases c9 : x4_1 = true
   ·subst c9
    have H1 : (some 5) = some r := by rw [if_pos rfl] at H; exact H
    clear H
    have H := H1
    clear H1
    obtain rfl := Option.some.inj H
    go_wp2
    go_ret
    exact ⟨by first | rfl | (simp [errW_none, errW_some] <;> rfl) | (simp [*, errW_none, errW_some] <;> rfl), tg1 HB.out GE101.out⟩
   ·replace c9 := Bool.eq_false_iff.mpr c9
    subst c9
    have H1 : (if (l0_3.length : Int) > 512 then (object_Check.j1 kj1 () true a0_0 l0_1 l0_2 l0_3 l0_4 l0_5) else (object_Check.j1 kj1 () (decide ((l0_4.length : Int) > 128)) a0_0 l0_1 l0_2 l0_3 l0_4 l0_5)) = some r := by rw [if_neg (show ¬ (false = true) by decide)] at H; exact H
    clear H
    have H := H1
    clear H1
    have HC10 := Aside0.mk H
    clear H
    go_upto_region 4 with (fail)
    go_cut [21] (fun v21 wc => ∃ (kq : Nat) (x21_9 : Bool), v21 = .bool x21_9 ∧ Aside0 (object_Check.j1 kq () x21_9 a0_0 l0_1 l0_2 l0_3 l0_4 l0_5 = some r) ∧ Aside0 (kq ≤ kj1) ∧ Aside0 (wc.heap[gb101]? = some (.cells #[.string a0_0, (.slice A0_1 l0_1.length c0_1), (.slice A0_2 l0_2.length c0_2), (.slice A0_3 l0_3.length c0_3), (.slice A0_4 l0_4.length c0_4), (.slice A0_5 l0_5.length c0_5)] 26 (0, 0))) ∧ Aside0 (Below w.heap.size w wc))
    case first =>
     have H := HC10.out
     clear HC10
     by_cases c11 : (l0_3.length : Int) > 512
     ·rw [if_pos c11] at H
      have c11b0 : decide (512 < (l0_3.length : Int)) = true := decide_eq_true c11
      have c11b1 : decide (512 < l0_3.length) = true := decide_eq_true (by omega)
      clear c11
      (first | rw [c11b0] | (simp only [i64_w, i32_w]; rw [c11b0]) | skip)
      have H' := Aside0.mk H
      clear H
      have hcz12_0 := cz BK101.out 0 (.string a0_0)
      have hcz12_1 := cz BK101.out 1 (.slice A0_1 l0_1.length c0_1)
      have hcz12_2 := cz BK101.out 2 (.slice A0_2 l0_2.length c0_2)
      have hcz12_3 := cz BK101.out 3 (.slice A0_3 l0_3.length c0_3)
      have hcz12_4 := cz BK101.out 4 (.slice A0_4 l0_4.length c0_4)
      have hcz12_5 := cz BK101.out 5 (.slice A0_5 l0_5.length c0_5)
      have hfz12_0 := blk_frozen BK101.out 0
      have hfz12_1 := blk_frozen BK101.out 1
      have hfz12_2 := blk_frozen BK101.out 2
      have hfz12_3 := blk_frozen BK101.out 3
      have hfz12_4 := blk_frozen BK101.out 4
      have hfz12_5 := blk_frozen BK101.out 5
      go_wp2
      go_meet
      case rel => exact ⟨_, (true), (by first | rfl | (simp; done) | (simp [*]; done)), H', ⟨by have := HJ1.out; first | omega | exact Nat.le_refl _⟩, ⟨by (with_reducible repeat (first | refine blk_drewN ?_ _ | refine blk_drew ?_ | refine blk_alloc ?_ _)); exact BK101.out⟩, ⟨tg1 HB.out GE101.out⟩⟩
     ·rw [if_neg c11] at H
      have c11b0 : decide (512 < (l0_3.length : Int)) = false := decide_eq_false c11
      have c11b1 : decide (512 < l0_3.length) = false := decide_eq_false (by omega)
      clear c11
      (first | rw [c11b0] | (simp only [i64_w, i32_w]; rw [c11b0]) | skip)
      have H' := Aside0.mk H
      clear H
      have hcz13_0 := cz BK101.out 0 (.string a0_0)
      have hcz13_1 := cz BK101.out 1 (.slice A0_1 l0_1.length c0_1)
      have hcz13_2 := cz BK101.out 2 (.slice A0_2 l0_2.length c0_2)
      have hcz13_3 := cz BK101.out 3 (.slice A0_3 l0_3.length c0_3)
      have hcz13_4 := cz BK101.out 4 (.slice A0_4 l0_4.length c0_4)
      have hcz13_5 := cz BK101.out 5 (.slice A0_5 l0_5.length c0_5)
      have hfz13_0 := blk_frozen BK101.out 0
      have hfz13_1 := blk_frozen BK101.out 1
      have hfz13_2 := blk_frozen BK101.out 2
      have hfz13_3 := blk_frozen BK101.out 3
      have hfz13_4 := blk_frozen BK101.out 4
      have hfz13_5 := blk_frozen BK101.out 5
      go_wp2
      go_meet
      case rel => exact ⟨_, (decide ((l0_4.length : Int) > 128)), (by first | rfl | (simp; done) | (simp [*]; done)), H', ⟨by have := HJ1.out; first | omega | exact Nat.le_refl _⟩, ⟨by (with_reducible repeat (first | refine blk_drewN ?_ _ | refine blk_drew ?_ | refine blk_alloc ?_ _)); exact BK101.out⟩, ⟨tg1 HB.out GE101.out⟩⟩
    case rest =>
     clear HC10
     try clear c1
     try clear p2
     try clear c3
     try clear c4
     try clear c4b0
     try clear c4b1
     try clear c6
     try clear c6b0
     try clear c6b1
     try clear c9
     try clear c11
     try clear c11b0
     try clear c11b1
     try clear hcz12_0
     try clear hcz12_1
     try clear hcz12_2
     try clear hcz12_3
     try clear hcz12_4
     try clear hcz12_5
     try clear hcz13_0
     try clear hcz13_1
     try clear hcz13_2
     try clear hcz13_3
     try clear hcz13_4
     try clear hcz13_5
     try clear hcz5_0
     try clear hcz5_1
     try clear hcz5_2
     try clear hcz5_3
     try clear hcz5_4
     try clear hcz5_5
     try clear hcz7_0
     try clear hcz7_1
     try clear hcz7_2
     try clear hcz7_3
     try clear hcz7_4
     try clear hcz7_5
     try clear hcz8_0
     try clear hcz8_1
     try clear hcz8_2
     try clear hcz8_3
     try clear hcz8_4
     try clear hcz8_5
     try clear hfz12_0
     try clear hfz12_1
     try clear hfz12_2
     try clear hfz12_3
     try clear hfz12_4
     try clear hfz12_5
     try clear hfz13_0
     try clear hfz13_1
     try clear hfz13_2
     try clear hfz13_3
     try clear hfz13_4
     try clear hfz13_5
     try clear hfz5_0
     try clear hfz5_1
     try clear hfz5_2
     try clear hfz5_3
     try clear hfz5_4
     try clear hfz5_5
     try clear hfz7_0
     try clear hfz7_1
     try clear hfz7_2
     try clear hfz7_3
     try clear hfz7_4
     try clear hfz7_5
     try clear hfz8_0
     try clear hfz8_1
     try clear hfz8_2
     try clear hfz8_3
     try clear hfz8_4
     try clear hfz8_5
     try clear p2
     obtain ⟨kq, x21_9, rfl, HA, HJ9, BK101, HB⟩ := hcut
     cases kq with
     | zero => exact absurd HA.out (by simp [object_Check.j1])
     | succ kj9 =>
      have H := HA.out
      clear HA
      simp only [object_Check.j1] at H
      by_cases c14 : x21_9 = true
      ·subst c14
       have H1 : (some 5) = some r := by rw [if_pos rfl] at H; exact H
       clear H
       have H := H1
       clear H1
       obtain rfl := Option.some.inj H
       go_wp2
       go_ret
       exact ⟨by first | rfl | (simp [errW_none, errW_some] <;> rfl) | (simp [*, errW_none, errW_some] <;> rfl), tg1 HB.out GE101.out⟩
      ·replace c14 := Bool.eq_false_iff.mpr c14
       subst c14
       have H1 : ((object_Check_1.f a0_0).bind fun t102 => (if t102 = true then (object_Check.j2 kj9 true a0_0 l0_1 l0_2 l0_3 l0_4 l0_5) else ((ContainsFunc_long.f kj9 l0_1 ()).bind fun t103 => (if t103 = true then (object_Check.j2 kj9 true a0_0 l0_1 l0_2 l0_3 l0_4 l0_5) else ((ContainsFunc_long.f kj9 l0_2 ()).bind fun t104 => (object_Check.j2 kj9 t104 a0_0 l0_1 l0_2 l0_3 l0_4 l0_5)))))) = some r := by rw [if_neg (show ¬ (false = true) by decide)] at H; exact H
       clear H
       have H := H1
       clear H1
       have HC15 := Aside0.mk H
       clear H
       go_upto_region 6 with (fail)
       go_cut [32] (fun v32 wc => ∃ (kq : Nat) (x32_14 : Bool), v32 = .bool x32_14 ∧ Aside0 (object_Check.j2 kq x32_14 a0_0 l0_1 l0_2 l0_3 l0_4 l0_5 = some r) ∧ Aside0 (kq ≤ kj9) ∧ Aside0 (wc.heap[gb101]? = some (.cells #[.string a0_0, (.slice A0_1 l0_1.length c0_1), (.slice A0_2 l0_2.length c0_2), (.slice A0_3 l0_3.length c0_3), (.slice A0_4 l0_4.length c0_4), (.slice A0_5 l0_5.length c0_5)] 26 (0, 0))) ∧ Aside0 (Below w.heap.size w wc))
       case first =>
        have H := HC15.out
        clear HC15
        replace H := Option.bind_eq_some_iff.mp H
        obtain ⟨t102, A160, H⟩ := H
        replace H : (if t102 = true then (object_Check.j2 kj9 true a0_0 l0_1 l0_2 l0_3 l0_4 l0_5) else ((ContainsFunc_long.f kj9 l0_1 ()).bind fun t103 => (if t103 = true then (object_Check.j2 kj9 true a0_0 l0_1 l0_2 l0_3 l0_4 l0_5) else ((ContainsFunc_long.f kj9 l0_2 ()).bind fun t104 => (object_Check.j2 kj9 t104 a0_0 l0_1 l0_2 l0_3 l0_4 l0_5))))) = some r := H
        have A16 := Aside0.mk A160
        clear A160
        by_cases c17 : t102 = true
        ·subst c17
         have H1 : (object_Check.j2 kj9 true a0_0 l0_1 l0_2 l0_3 l0_4 l0_5) = some r := by rw [if_pos rfl] at H; exact H
         clear H
         have H := H1
         clear H1
         have H' := Aside0.mk H
         clear H
         have hcz18_0 := cz BK101.out 0 (.string a0_0)
         have hcz18_1 := cz BK101.out 1 (.slice A0_1 l0_1.length c0_1)
         have hcz18_2 := cz BK101.out 2 (.slice A0_2 l0_2.length c0_2)
         have hcz18_3 := cz BK101.out 3 (.slice A0_3 l0_3.length c0_3)
         have hcz18_4 := cz BK101.out 4 (.slice A0_4 l0_4.length c0_4)
         have hcz18_5 := cz BK101.out 5 (.slice A0_5 l0_5.length c0_5)
         have hfz18_0 := blk_frozen BK101.out 0
         have hfz18_1 := blk_frozen BK101.out 1
         have hfz18_2 := blk_frozen BK101.out 2
         have hfz18_3 := blk_frozen BK101.out 3
         have hfz18_4 := blk_frozen BK101.out 4
         have hfz18_5 := blk_frozen BK101.out 5
         go_wp2_with (first | (go_at_call 72; (with_reducible refine (object_Check_1.calls a0_0 true _ A16.out).mono ?_); rintro e w' ⟨rfl, ⟨nd, rfl⟩⟩))
         go_meet
         case rel => exact ⟨_, (true), (by first | rfl | (simp; done) | (simp [*]; done)), H', ⟨by have := HJ1.out; have := HJ9.out; first | omega | exact Nat.le_refl _⟩, ⟨by (with_reducible repeat (first | refine blk_drewN ?_ _ | refine blk_drew ?_ | refine blk_alloc ?_ _)); exact BK101.out⟩, ⟨tg1 HB.out GE101.out⟩⟩
        ·replace c17 := Bool.eq_false_iff.mpr c17
         subst c17
         have H1 : ((ContainsFunc_long.f kj9 l0_1 ()).bind fun t103 => (if t103 = true then (object_Check.j2 kj9 true a0_0 l0_1 l0_2 l0_3 l0_4 l0_5) else ((ContainsFunc_long.f kj9 l0_2 ()).bind fun t104 => (object_Check.j2 kj9 t104 a0_0 l0_1 l0_2 l0_3 l0_4 l0_5)))) = some r := by rw [if_neg (show ¬ (false = true) by decide)] at H; exact H
         clear H
         have H := H1
         clear H1
         replace H := Option.bind_eq_some_iff.mp H
         obtain ⟨t103, A190, H⟩ := H
         replace H : (if t103 = true then (object_Check.j2 kj9 true a0_0 l0_1 l0_2 l0_3 l0_4 l0_5) else ((ContainsFunc_long.f kj9 l0_2 ()).bind fun t104 => (object_Check.j2 kj9 t104 a0_0 l0_1 l0_2 l0_3 l0_4 l0_5))) = some r := H
         have A19 := Aside0.mk A190
         clear A190
         by_cases c20 : t103 = true
         ·subst c20
          have H1 : (object_Check.j2 kj9 true a0_0 l0_1 l0_2 l0_3 l0_4 l0_5) = some r := by rw [if_pos rfl] at H; exact H
          clear H
          have H := H1
          clear H1
          have H' := Aside0.mk H
          clear H
          have hcz21_0 := cz BK101.out 0 (.string a0_0)
          have hcz21_1 := cz BK101.out 1 (.slice A0_1 l0_1.length c0_1)
          have hcz21_2 := cz BK101.out 2 (.slice A0_2 l0_2.length c0_2)
          have hcz21_3 := cz BK101.out 3 (.slice A0_3 l0_3.length c0_3)
          have hcz21_4 := cz BK101.out 4 (.slice A0_4 l0_4.length c0_4)
          have hcz21_5 := cz BK101.out 5 (.slice A0_5 l0_5.length c0_5)
          have hfz21_0 := blk_frozen BK101.out 0
          have hfz21_1 := blk_frozen BK101.out 1
          have hfz21_2 := blk_frozen BK101.out 2
          have hfz21_3 := blk_frozen BK101.out 3
          have hfz21_4 := blk_frozen BK101.out 4
          have hfz21_5 := blk_frozen BK101.out 5
          go_wp2_with (first | (go_at_call 72; (with_reducible refine (object_Check_1.calls a0_0 false _ A16.out).mono ?_); rintro e w' ⟨rfl, ⟨nd, rfl⟩⟩) | (go_at_call 56; (with_reducible refine (ContainsFunc_long.calls kj9 _ _ l0_1 () true _ ?side1 ?side2 A19.out).mono ?_); (case side1 => repeat (first | exact (Kd.C_below HR0_1.out (tg1 HB.out GE101.out)) | (with_reducible refine Kd.C_alloc ?_ _) | (with_reducible refine Kd.C_drewN ?_ _) | (with_reducible refine Kd.C_drew ?_))); (case side2 => exact HC0_1.out); rintro e w' ⟨rfl, ⟨nd, rfl⟩⟩))
          go_meet
          case rel => exact ⟨_, (true), (by first | rfl | (simp; done) | (simp [*]; done)), H', ⟨by have := HJ1.out; have := HJ9.out; first | omega | exact Nat.le_refl _⟩, ⟨by (with_reducible repeat (first | refine blk_drewN ?_ _ | refine blk_drew ?_ | refine blk_alloc ?_ _)); exact BK101.out⟩, ⟨tg1 HB.out GE101.out⟩⟩
         ·replace c20 := Bool.eq_false_iff.mpr c20
          subst c20
          have H1 : ((ContainsFunc_long.f kj9 l0_2 ()).bind fun t104 => (object_Check.j2 kj9 t104 a0_0 l0_1 l0_2 l0_3 l0_4 l0_5)) = some r := by rw [if_neg (show ¬ (false = true) by decide)] at H; exact H
          clear H
          have H := H1
          clear H1
          replace H := Option.bind_eq_some_iff.mp H
          obtain ⟨t104, A220, H⟩ := H
          replace H : (object_Check.j2 kj9 t104 a0_0 l0_1 l0_2 l0_3 l0_4 l0_5) = some r := H
          have A22 := Aside0.mk A220
          clear A220
          have H' := Aside0.mk H
          clear H
          have hcz23_0 := cz BK101.out 0 (.string a0_0)
          have hcz23_1 := cz BK101.out 1 (.slice A0_1 l0_1.length c0_1)
          have hcz23_2 := cz BK101.out 2 (.slice A0_2 l0_2.length c0_2)
          have hcz23_3 := cz BK101.out 3 (.slice A0_3 l0_3.length c0_3)
          have hcz23_4 := cz BK101.out 4 (.slice A0_4 l0_4.length c0_4)
          have hcz23_5 := cz BK101.out 5 (.slice A0_5 l0_5.length c0_5)
          have hfz23_0 := blk_frozen BK101.out 0
          have hfz23_1 := blk_frozen BK101.out 1
          have hfz23_2 := blk_frozen BK101.out 2
          have hfz23_3 := blk_frozen BK101.out 3
          have hfz23_4 := blk_frozen BK101.out 4
          have hfz23_5 := blk_frozen BK101.out 5
          go_wp2_with (first | (go_at_call 72; (with_reducible refine (object_Check_1.calls a0_0 false _ A16.out).mono ?_); rintro e w' ⟨rfl, ⟨nd, rfl⟩⟩) | (go_at_call 56; (with_reducible refine (ContainsFunc_long.calls kj9 _ _ l0_1 () false _ ?side1 ?side2 A19.out).mono ?_); (case side1 => repeat (first | exact (Kd.C_below HR0_1.out (tg1 HB.out GE101.out)) | (with_reducible refine Kd.C_alloc ?_ _) | (with_reducible refine Kd.C_drewN ?_ _) | (with_reducible refine Kd.C_drew ?_))); (case side2 => exact HC0_1.out); rintro e w' ⟨rfl, ⟨nd, rfl⟩⟩) | (go_at_call 56; (with_reducible refine (ContainsFunc_long.calls kj9 _ _ l0_2 () t104 _ ?side1 ?side2 A22.out).mono ?_); (case side1 => repeat (first | exact (Kd.C_below HR0_2.out (tg1 HB.out GE101.out)) | (with_reducible refine Kd.C_alloc ?_ _) | (with_reducible refine Kd.C_drewN ?_ _) | (with_reducible refine Kd.C_drew ?_))); (case side2 => exact HC0_2.out); rintro e w' ⟨rfl, ⟨nd, rfl⟩⟩))
          go_meet
          case rel => exact ⟨_, (t104), (by first | rfl | (simp; done) | (simp [*]; done)), H', ⟨by have := HJ1.out; have := HJ9.out; first | omega | exact Nat.le_refl _⟩, ⟨by (with_reducible repeat (first | refine blk_drewN ?_ _ | refine blk_drew ?_ | refine blk_alloc ?_ _)); exact BK101.out⟩, ⟨tg1 HB.out GE101.out⟩⟩
       case rest =>
        clear HC15
        try clear c1
        try clear c2
        try clear p2
        try clear c3
        try clear c4
        try clear c4b0
        try clear c4b1
        try clear c6
        try clear c6b0
        try clear c6b1
        try clear c9
        try clear c11
        try clear c11b0
        try clear c11b1
        try clear c14
        try clear c17
        try clear c20
        try clear hcz12_0
        try clear hcz12_1
        try clear hcz12_2
        try clear hcz12_3
        try clear hcz12_4
        try clear hcz12_5
        try clear hcz13_0
        try clear hcz13_1
        try clear hcz13_2
        try clear hcz13_3
        try clear hcz13_4
        try clear hcz13_5
        try clear hcz18_0
        try clear hcz18_1
        try clear hcz18_2
        try clear hcz18_3
        try clear hcz18_4
        try clear hcz18_5
        try clear hcz21_0
        try clear hcz21_1
        try clear hcz21_2
        try clear hcz21_3
        try clear hcz21_4
        try clear hcz21_5
        try clear hcz23_0
        try clear hcz23_1
        try clear hcz23_2
        try clear hcz23_3
        try clear hcz23_4
        try clear hcz23_5
        try clear hcz5_0
        try clear hcz5_1
        try clear hcz5_2
        try clear hcz5_3
        try clear hcz5_4
        try clear hcz5_5
        try clear hcz7_0
        try clear hcz7_1
        try clear hcz7_2
        try clear hcz7_3
        try clear hcz7_4
        try clear hcz7_5
        try clear hcz8_0
        try clear hcz8_1
        try clear hcz8_2
        try clear hcz8_3
        try clear hcz8_4
        try clear hcz8_5
        try clear hfz12_0
        try clear hfz12_1
        try clear hfz12_2
        try clear hfz12_3
        try clear hfz12_4
        try clear hfz12_5
        try clear hfz13_0
        try clear hfz13_1
        try clear hfz13_2
        try clear hfz13_3
        try clear hfz13_4
        try clear hfz13_5
        try clear hfz18_0
        try clear hfz18_1
        try clear hfz18_2
        try clear hfz18_3
        try clear hfz18_4
        try clear hfz18_5
        try clear hfz21_0
        try clear hfz21_1
        try clear hfz21_2
        try clear hfz21_3
        try clear hfz21_4
        try clear hfz21_5
        try clear hfz23_0
        try clear hfz23_1
        try clear hfz23_2
        try clear hfz23_3
        try clear hfz23_4
        try clear hfz23_5
        try clear hfz5_0
        try clear hfz5_1
        try clear hfz5_2
        try clear hfz5_3
        try clear hfz5_4
        try clear hfz5_5
        try clear hfz7_0
        try clear hfz7_1
        try clear hfz7_2
        try clear hfz7_3
        try clear hfz7_4
        try clear hfz7_5
        try clear hfz8_0
        try clear hfz8_1
        try clear hfz8_2
        try clear hfz8_3
        try clear hfz8_4
        try clear hfz8_5
        try clear p2
        obtain ⟨kq, x32_14, rfl, HA, HJ14, BK101, HB⟩ := hcut
        cases kq with
        | zero => exact absurd HA.out (by simp [object_Check.j2])
        | succ kj14 =>
         have H := HA.out
         clear HA
         simp only [object_Check.j2] at H
         by_cases c24 : x32_14 = true
         ·subst c24
          have H1 : (some 5) = some r := by rw [if_pos rfl] at H; exact H
          clear H
          have H := H1
          clear H1
          obtain rfl := Option.some.inj H
          go_wp2
          go_ret
          exact ⟨by first | rfl | (simp [errW_none, errW_some] <;> rfl) | (simp [*, errW_none, errW_some] <;> rfl), tg1 HB.out GE101.out⟩
         ·replace c24 := Bool.eq_false_iff.mpr c24
          subst c24
          have H1 : ((ContainsFunc_kind.f kj14 l0_5 ()).bind fun t105 => (if t105 = true then (some 2) else (some 0))) = some r := by rw [if_neg (show ¬ (false = true) by decide)] at H; exact H
          clear H
          have H := H1
          clear H1
          replace H := Option.bind_eq_some_iff.mp H
          obtain ⟨t105, A250, H⟩ := H
          replace H : (if t105 = true then (some 2) else (some 0)) = some r := H
          have A25 := Aside0.mk A250
          clear A250
          by_cases c26 : t105 = true
          ·subst c26
           have H1 : (some 2) = some r := by rw [if_pos rfl] at H; exact H
           clear H
           have H := H1
           clear H1
           obtain rfl := Option.some.inj H
           have hcz27_0 := cz BK101.out 0 (.string a0_0)
           have hcz27_1 := cz BK101.out 1 (.slice A0_1 l0_1.length c0_1)
           have hcz27_2 := cz BK101.out 2 (.slice A0_2 l0_2.length c0_2)
           have hcz27_3 := cz BK101.out 3 (.slice A0_3 l0_3.length c0_3)
           have hcz27_4 := cz BK101.out 4 (.slice A0_4 l0_4.length c0_4)
           have hcz27_5 := cz BK101.out 5 (.slice A0_5 l0_5.length c0_5)
           have hfz27_0 := blk_frozen BK101.out 0
           have hfz27_1 := blk_frozen BK101.out 1
           have hfz27_2 := blk_frozen BK101.out 2
           have hfz27_3 := blk_frozen BK101.out 3
           have hfz27_4 := blk_frozen BK101.out 4
           have hfz27_5 := blk_frozen BK101.out 5
           go_wp2_with (first | ((with_reducible refine gate_callee (f := 73) rfl ?_); refine goesL_ (some 52) rfl rfl Tryd.func73 (by kernel_rfl) rfl #[.slice A0_5 l0_5.length c0_5, .func (.func 74) #[] #[]] rfl tm ?_; (with_reducible refine (ContainsFunc_kind.calls kj14 _ _ l0_5 () true _ ?side1 ?side2 A25.out).mono ?_); (case side1 => exact tc (Kd.C_below HR0_5.out HB.out)); (case side2 => exact HC0_5.out); rintro e w28 ⟨rfl, hb⟩; refine ⟨_, rfl, ?_⟩; replace BK101 := ba BK101.out hb; replace HB := Aside0.mk (below_step (tg1 HB.out GE101.out) hb); (try clear hb); (try clear hb2); (try clear hk); (try clear hi)))
           go_ret
           exact ⟨by first | rfl | (simp [errW_none, errW_some] <;> rfl) | (simp [*, errW_none, errW_some] <;> rfl), tg1 HB.out GE101.out⟩
          ·replace c26 := Bool.eq_false_iff.mpr c26
           subst c26
           have H1 : (some 0) = some r := by rw [if_neg (show ¬ (false = true) by decide)] at H; exact H
           clear H
           have H := H1
           clear H1
           obtain rfl := Option.some.inj H
           have hcz29_0 := cz BK101.out 0 (.string a0_0)
           have hcz29_1 := cz BK101.out 1 (.slice A0_1 l0_1.length c0_1)
           have hcz29_2 := cz BK101.out 2 (.slice A0_2 l0_2.length c0_2)
           have hcz29_3 := cz BK101.out 3 (.slice A0_3 l0_3.length c0_3)
           have hcz29_4 := cz BK101.out 4 (.slice A0_4 l0_4.length c0_4)
           have hcz29_5 := cz BK101.out 5 (.slice A0_5 l0_5.length c0_5)
           have hfz29_0 := blk_frozen BK101.out 0
           have hfz29_1 := blk_frozen BK101.out 1
           have hfz29_2 := blk_frozen BK101.out 2
           have hfz29_3 := blk_frozen BK101.out 3
           have hfz29_4 := blk_frozen BK101.out 4
           have hfz29_5 := blk_frozen BK101.out 5
           go_wp2_with (first | ((with_reducible refine gate_callee (f := 73) rfl ?_); refine goesL_ (some 52) rfl rfl Tryd.func73 (by kernel_rfl) rfl #[.slice A0_5 l0_5.length c0_5, .func (.func 74) #[] #[]] rfl tm ?_; (with_reducible refine (ContainsFunc_kind.calls kj14 _ _ l0_5 () false _ ?side1 ?side2 A25.out).mono ?_); (case side1 => exact tc (Kd.C_below HR0_5.out HB.out)); (case side2 => exact HC0_5.out); rintro e w30 ⟨rfl, hb⟩; refine ⟨_, rfl, ?_⟩; replace BK101 := ba BK101.out hb; replace HB := Aside0.mk (below_step (tg1 HB.out GE101.out) hb); (try clear hb); (try clear hb2); (try clear hk); (try clear hi)))
           go_ret
           exact ⟨by first | rfl | (simp [errW_none, errW_some] <;> rfl) | (simp [*, errW_none, errW_some] <;> rfl), tg1 HB.out GE101.out⟩

end Go.Proofs.YtiphindialkmnaaDoor.X
end
section
namespace Go.Proofs.YtiphindialkmnaaDoor.X
open Go.RowKit Go.Proofs.YtiphindialkmnaaDoorW.PrintWords Go.Proofs.YtiphindialkmnaaDoorW.PrintLast Go.Proofs.YtiphindialkmnaaDoorW.PrintMore
attribute [local go_sem] max2_int min2_int max_two min_two max_three min_three max_four min_four
set_option linter.unusedVariables false
set_option linter.unusedSimpArgs false

/-! ### valid_words: function 39 -/
mutual
def valid_words.j0 : Nat → Bool → ByteArray → List ByteArray → List ByteArray → List Int → List Int → List (S43) → Option (Int × Int)
 | 0, _, _, _, _, _, _, _ => none
 | k + 1, x20, x102000, x102001, x102002, x102003, x102004, x102005 => if x20 = true then (some (4, 0)) else (valid_words.l0 k x102003 (x102003.length : Int) 0)
def valid_words.l0 : Nat → List Int → Int → Int → Option (Int × Int)
 | 0, _, _, _ => none
 | k + 1, x22, x23, x24 => if x24 < x23 then (if 0 ≤ x24 then (if x24 < (x22.length : Int) then ((isa_Decode.f k (rd x22 x24)).bind fun bt103 => (if bt103.2.2.2.2.2 = 0 then (if bt103.1 = 21 then (some (5, x24)) else (valid_words.l0 k x22 x23 (wrap64 (x24 + 1)))) else (some (5, x24)))) else (none)) else (none)) else (some (0, 0))
end
def valid_words.f (k : Nat) (a0_0 : ByteArray) (l0_1 : List ByteArray) (l0_2 : List ByteArray) (l0_3 : List Int) (l0_4 : List Int) (l0_5 : List (S43)) : Option (Int × Int) := if (l0_3.length : Int) = 0 then (valid_words.j0 k true a0_0 l0_1 l0_2 l0_3 l0_4 l0_5) else (valid_words.j0 k (decide ((l0_3.length : Int) < (l0_1.length : Int))) a0_0 l0_1 l0_2 l0_3 l0_4 l0_5)
theorem valid_words.mono_l : ∀ k, (∀ y0 y1 y2 y3 y4 y5 y6, LeO (valid_words.j0 k y0 y1 y2 y3 y4 y5 y6) (valid_words.j0 (k + 1) y0 y1 y2 y3 y4 y5 y6)) ∧ (∀ y0 y1 y2, LeO (valid_words.l0 k y0 y1 y2) (valid_words.l0 (k + 1) y0 y1 y2))
 | 0 => ⟨fun _ _ _ _ _ _ _ r h => by simp [valid_words.j0] at h, fun _ _ _ r h => by simp [valid_words.l0] at h⟩
 | k + 1 => by
  obtain ⟨ih0, ih1⟩ := valid_words.mono_l k
  refine ⟨?_, ?_⟩
  ·intro y0 y1 y2 y3 y4 y5 y6
   unfold valid_words.j0
   repeat' first
   | (with_reducible exact ih0 _ _ _ _ _ _ _)
   | (with_reducible exact ih1 _ _ _)
   | (with_reducible exact isa_Decode.mono _ _)
   | (with_reducible exact LeO.refl _)
   | (with_reducible exact LeO.none _)
   | (with_reducible refine LeO.ite ?_ ?_)
   | (with_reducible refine LeO.bind ?_ (fun _ => ?_))
   | exact ih0 _ _ _ _ _ _ _
   | exact ih1 _ _ _
   | exact isa_Decode.mono _ _
   | exact LeO.none _
   | refine LeO.ite ?_ ?_
   | refine LeO.bind ?_ (fun _ => ?_)
  ·intro y0 y1 y2
   unfold valid_words.l0
   repeat' first
   | (with_reducible exact ih0 _ _ _ _ _ _ _)
   | (with_reducible exact ih1 _ _ _)
   | (with_reducible exact isa_Decode.mono _ _)
   | (with_reducible exact LeO.refl _)
   | (with_reducible exact LeO.none _)
   | (with_reducible refine LeO.ite ?_ ?_)
   | (with_reducible refine LeO.bind ?_ (fun _ => ?_))
   | exact ih0 _ _ _ _ _ _ _
   | exact ih1 _ _ _
   | exact isa_Decode.mono _ _
   | exact LeO.none _
   | refine LeO.ite ?_ ?_
   | refine LeO.bind ?_ (fun _ => ?_)
theorem valid_words.mono : ∀ a0 a1 a2 a3 a4 a5 k, LeO (valid_words.f k a0 a1 a2 a3 a4 a5) (valid_words.f (k + 1) a0 a1 a2 a3 a4 a5) := by
 intro a0 a1 a2 a3 a4 a5 k
 obtain ⟨ih0, ih1⟩ := valid_words.mono_l k
 unfold valid_words.f
 repeat' first
   | (with_reducible exact ih0 _ _ _ _ _ _ _)
   | (with_reducible exact ih1 _ _ _)
   | (with_reducible exact isa_Decode.mono _ _)
   | (with_reducible exact LeO.refl _)
   | (with_reducible exact LeO.none _)
   | (with_reducible refine LeO.ite ?_ ?_)
   | (with_reducible refine LeO.bind ?_ (fun _ => ?_))
   | exact ih0 _ _ _ _ _ _ _
   | exact ih1 _ _ _
   | exact isa_Decode.mono _ _
   | exact LeO.none _
   | refine LeO.ite ?_ ?_
   | refine LeO.bind ?_ (fun _ => ?_)
set_option maxHeartbeats 8000000 in
set_option maxRecDepth 100000 in
theorem valid_words.calls (k : Nat) (a0_0 : ByteArray) (A0_1 : Option Addr) (c0_1 : Nat) (l0_1 : List ByteArray) (A0_2 : Option Addr) (c0_2 : Nat) (l0_2 : List ByteArray) (A0_3 : Option Addr) (c0_3 : Nat) (l0_3 : List Int) (A0_4 : Option Addr) (c0_4 : Nat) (l0_4 : List Int) (A0_5 : Option Addr) (c0_5 : Nat) (l0_5 : List (S43)) (r1 : Int) (r2 : Int) (w : World) (hr0_1 : Kd.C Kd.string w A0_1 l0_1.length l0_1) (hc0_1 : l0_1.length ≤ c0_1) (hr0_2 : Kd.C Kd.string w A0_2 l0_2.length l0_2) (hc0_2 : l0_2.length ≤ c0_2) (hr0_3 : Kd.C (Kd.int .u32) w A0_3 l0_3.length l0_3) (hc0_3 : l0_3.length ≤ c0_3) (hr0_4 : Kd.C (Kd.int .u32) w A0_4 l0_4.length l0_4) (hc0_4 : l0_4.length ≤ c0_4) (hr0_5 : Kd.C k43 w A0_5 l0_5.length l0_5) (hc0_5 : l0_5.length ≤ c0_5) (h : valid_words.f k a0_0 l0_1 l0_2 l0_3 l0_4 l0_5 = some (r1, r2)) :
  Calls Tryd.prog 39 #[.agg #[.string a0_0, .slice A0_1 l0_1.length c0_1, .slice A0_2 l0_2.length c0_2, .slice A0_3 l0_3.length c0_3, .slice A0_4 l0_4.length c0_4, .slice A0_5 l0_5.length c0_5]] w fun e w' => e = .returned (.tuple #[.int .u8 r1, .int .i64 r2]) ∧ Below w.heap.size w w' := by
 have hu26 := Tryd.underlying26
 have hu47 := Tryd.underlying47
 have HR0_1 := Aside0.mk hr0_1
 have HC0_1 := Aside0.mk hc0_1
 clear hr0_1 hc0_1
 have HR0_2 := Aside0.mk hr0_2
 have HC0_2 := Aside0.mk hc0_2
 clear hr0_2 hc0_2
 have HR0_3 := Aside0.mk hr0_3
 have HC0_3 := Aside0.mk hc0_3
 clear hr0_3 hc0_3
 have HR0_4 := Aside0.mk hr0_4
 have HC0_4 := Aside0.mk hc0_4
 clear hr0_4 hc0_4
 have HR0_5 := Aside0.mk hr0_5
 have HC0_5 := Aside0.mk hc0_5
 clear hr0_5 hc0_5
 have HB := Aside0.mk (Below.refl w.heap.size w)
 have H : (if (l0_3.length : Int) = 0 then (valid_words.j0 k true a0_0 l0_1 l0_2 l0_3 l0_4 l0_5) else (valid_words.j0 k (decide ((l0_3.length : Int) < (l0_1.length : Int))) a0_0 l0_1 l0_2 l0_3 l0_4 l0_5)) = some (r1, r2) := h
 clear h
 have HC2 := Aside0.mk H
 clear H
 go_enter Tryd.func39, Tryd.ntmps39
 go_upto_region 1 with (first | ((with_reducible refine gate_dst (N := 1) rfl ?_); (try (refine gate_guard (by rfl) ?_; dsimp only)); refine box_event ?hg (N := 1) ?hd (cs := #[.string a0_0, .slice A0_1 l0_1.length c0_1, .slice A0_2 l0_2.length c0_2, .slice A0_3 l0_3.length c0_3, .slice A0_4 l0_4.length c0_4, .slice A0_5 l0_5.length c0_5]) (t := 26) ?hr ?_; (case hd => rfl); (case hg => rfl); (case hr => first | (go_simp; done) | (go_simp; rfl)); intro gb101 hg w3 hbox hb; have n0_ := Aside0.mk (below_step (tg HB.out) hb); have n1_ := Aside0.mk (hbox); have n2_ := Aside0.mk ((by rw [hg]; exact (below_size (tg HB.out)) : w.heap.size ≤ gb101)); have n3_ := Aside0.mk ((by rw [hg]; exact (below_size (tg HB.out)) : w.heap.size ≤ gb101)); clear HB; have HB := n0_; have BK101 := n1_; have GW101 := n2_; have GE101 := n3_; clear n0_ n1_ n2_ n3_; clear hb hbox hg))
 (try simp only [Act.put, List.setIfInBounds_toArray, List.set_cons_zero, List.set_cons_succ])
 go_cut [20] (fun v20 wc => ∃ (kq : Nat) (x20_1 : Bool), v20 = .bool x20_1 ∧ Aside0 (valid_words.j0 kq x20_1 a0_0 l0_1 l0_2 l0_3 l0_4 l0_5 = some (r1, r2)) ∧ Aside0 (kq ≤ k) ∧ Aside0 (wc.heap[gb101]? = some (.cells #[.string a0_0, (.slice A0_1 l0_1.length c0_1), (.slice A0_2 l0_2.length c0_2), (.slice A0_3 l0_3.length c0_3), (.slice A0_4 l0_4.length c0_4), (.slice A0_5 l0_5.length c0_5)] 26 (0, 0))) ∧ Aside0 (Below w.heap.size w wc))
 case first =>
  have H := HC2.out
  clear HC2
  by_cases c4 : (l0_3.length : Int) = 0
  ·rw [if_pos c4] at H
   have c4b0 : ((l0_3.length : Int) == 0) = true := beq_iff_eq.mpr c4
   have c4b1 : ((l0_3.length : Int) != 0) = false := bne_eq_false_iff_eq.mpr c4
   clear c4
   (first | rw [c4b0] | (simp only [i64_w, i32_w]; rw [c4b0]) | skip)
   have H' := Aside0.mk H
   clear H
   have hcz5_0 := cz BK101.out 0 (.string a0_0)
   have hcz5_1 := cz BK101.out 1 (.slice A0_1 l0_1.length c0_1)
   have hcz5_2 := cz BK101.out 2 (.slice A0_2 l0_2.length c0_2)
   have hcz5_3 := cz BK101.out 3 (.slice A0_3 l0_3.length c0_3)
   have hcz5_4 := cz BK101.out 4 (.slice A0_4 l0_4.length c0_4)
   have hcz5_5 := cz BK101.out 5 (.slice A0_5 l0_5.length c0_5)
   have hfz5_0 := blk_frozen BK101.out 0
   have hfz5_1 := blk_frozen BK101.out 1
   have hfz5_2 := blk_frozen BK101.out 2
   have hfz5_3 := blk_frozen BK101.out 3
   have hfz5_4 := blk_frozen BK101.out 4
   have hfz5_5 := blk_frozen BK101.out 5
   go_wp2
   go_meet
   case rel => exact ⟨_, (true), (by first | rfl | (simp; done) | (simp [*]; done)), H', ⟨by first | omega | exact Nat.le_refl _⟩, ⟨by (with_reducible repeat (first | refine blk_drewN ?_ _ | refine blk_drew ?_ | refine blk_alloc ?_ _)); exact BK101.out⟩, ⟨tg1 HB.out GE101.out⟩⟩
  ·rw [if_neg c4] at H
   have c4b0 : ((l0_3.length : Int) == 0) = false := beq_eq_false_iff_ne.mpr c4
   have c4b1 : ((l0_3.length : Int) != 0) = true := bne_iff_ne.mpr c4
   have c4b2 : ¬ (l0_3 = []) := fun h_ => c4 (by rw [h_]; rfl)
   (first | rw [c4b0] | (simp only [i64_w, i32_w]; rw [c4b0]) | skip)
   have H' := Aside0.mk H
   clear H
   have hcz6_0 := cz BK101.out 0 (.string a0_0)
   have hcz6_1 := cz BK101.out 1 (.slice A0_1 l0_1.length c0_1)
   have hcz6_2 := cz BK101.out 2 (.slice A0_2 l0_2.length c0_2)
   have hcz6_3 := cz BK101.out 3 (.slice A0_3 l0_3.length c0_3)
   have hcz6_4 := cz BK101.out 4 (.slice A0_4 l0_4.length c0_4)
   have hcz6_5 := cz BK101.out 5 (.slice A0_5 l0_5.length c0_5)
   have hfz6_0 := blk_frozen BK101.out 0
   have hfz6_1 := blk_frozen BK101.out 1
   have hfz6_2 := blk_frozen BK101.out 2
   have hfz6_3 := blk_frozen BK101.out 3
   have hfz6_4 := blk_frozen BK101.out 4
   have hfz6_5 := blk_frozen BK101.out 5
   go_wp2
   go_meet
   case rel => exact ⟨_, (decide ((l0_3.length : Int) < (l0_1.length : Int))), (by first | rfl | (simp; done) | (simp [*]; done)), H', ⟨by first | omega | exact Nat.le_refl _⟩, ⟨by (with_reducible repeat (first | refine blk_drewN ?_ _ | refine blk_drew ?_ | refine blk_alloc ?_ _)); exact BK101.out⟩, ⟨tg1 HB.out GE101.out⟩⟩
 case rest =>
  clear HC2
  try clear p2
  try clear c3
  try clear c4
  try clear c4b0
  try clear c4b1
  try clear c4b2
  try clear hcz5_0
  try clear hcz5_1
  try clear hcz5_2
  try clear hcz5_3
  try clear hcz5_4
  try clear hcz5_5
  try clear hcz6_0
  try clear hcz6_1
  try clear hcz6_2
  try clear hcz6_3
  try clear hcz6_4
  try clear hcz6_5
  try clear hfz5_0
  try clear hfz5_1
  try clear hfz5_2
  try clear hfz5_3
  try clear hfz5_4
  try clear hfz5_5
  try clear hfz6_0
  try clear hfz6_1
  try clear hfz6_2
  try clear hfz6_3
  try clear hfz6_4
  try clear hfz6_5
  obtain ⟨kq, x20_1, rfl, HA, HJ1, BK101, HB⟩ := hcut
  cases kq with
  | zero => exact absurd HA.out (by simp [valid_words.j0])
  | succ kj1 =>
   have H := HA.out
   clear HA
   simp only [valid_words.j0] at H
   by_cases c7 : x20_1 = true
   ·subst c7
    have H1 : (some (4, 0)) = some (r1, r2) := by rw [if_pos rfl] at H; exact H
    clear H
    have H := H1
    clear H1
    simp only [Option.some.injEq, Prod.mk.injEq] at H
    obtain ⟨rfl, rfl⟩ := H
    go_wp2
    go_ret2
    exact ⟨by first | rfl | (simp [errW_none, errW_some] <;> rfl) | (simp [*, errW_none, errW_some] <;> rfl), tg1 HB.out GE101.out⟩
   ·replace c7 := Bool.eq_false_iff.mpr c7
    subst c7
    have H1 : (valid_words.l0 kj1 l0_3 (l0_3.length : Int) 0) = some (r1, r2) := by rw [if_neg (show ¬ (false = true) by decide)] at H; exact H
    clear H
    have H := H1
    clear H1
    have H' := Aside0.mk H
    clear H
    have hcz8_0 := cz BK101.out 0 (.string a0_0)
    have hcz8_1 := cz BK101.out 1 (.slice A0_1 l0_1.length c0_1)
    have hcz8_2 := cz BK101.out 2 (.slice A0_2 l0_2.length c0_2)
    have hcz8_3 := cz BK101.out 3 (.slice A0_3 l0_3.length c0_3)
    have hcz8_4 := cz BK101.out 4 (.slice A0_4 l0_4.length c0_4)
    have hcz8_5 := cz BK101.out 5 (.slice A0_5 l0_5.length c0_5)
    have hfz8_0 := blk_frozen BK101.out 0
    have hfz8_1 := blk_frozen BK101.out 1
    have hfz8_2 := blk_frozen BK101.out 2
    have hfz8_3 := blk_frozen BK101.out 3
    have hfz8_4 := blk_frozen BK101.out 4
    have hfz8_5 := blk_frozen BK101.out 5
    go_wp2
    go_loopg [24] kj1 (fun kq v24 w' => ∃ (x24_2 : Int), v24 = .int .i64 x24_2 ∧ Aside0 (valid_words.l0 kq l0_3 (l0_3.length : Int) x24_2 = some (r1, r2)) ∧ Aside0 (kq ≤ kj1) ∧ Aside0 (w'.heap[gb101]? = some (.cells #[.string a0_0, (.slice A0_1 l0_1.length c0_1), (.slice A0_2 l0_2.length c0_2), (.slice A0_3 l0_3.length c0_3), (.slice A0_4 l0_4.length c0_4), (.slice A0_5 l0_5.length c0_5)] 26 (0, 0))) ∧ Aside0 (Below w.heap.size w w'))
    case atStart => exact ⟨(0), (by first | rfl | (simp; done) | (simp [*]; done)), H', ⟨Nat.le_refl _⟩, ⟨by (with_reducible repeat (first | refine blk_drewN ?_ _ | refine blk_drew ?_ | refine blk_alloc ?_ _)); exact BK101.out⟩, ⟨tg1 HB.out GE101.out⟩⟩
    case round =>
     clear H'
     try clear p2
     try clear c3
     try clear c4
     try clear c4b0
     try clear c4b1
     try clear c4b2
     try clear c7
     try clear hcz5_0
     try clear hcz5_1
     try clear hcz5_2
     try clear hcz5_3
     try clear hcz5_4
     try clear hcz5_5
     try clear hcz6_0
     try clear hcz6_1
     try clear hcz6_2
     try clear hcz6_3
     try clear hcz6_4
     try clear hcz6_5
     try clear hcz8_0
     try clear hcz8_1
     try clear hcz8_2
     try clear hcz8_3
     try clear hcz8_4
     try clear hcz8_5
     try clear hfz5_0
     try clear hfz5_1
     try clear hfz5_2
     try clear hfz5_3
     try clear hfz5_4
     try clear hfz5_5
     try clear hfz6_0
     try clear hfz6_1
     try clear hfz6_2
     try clear hfz6_3
     try clear hfz6_4
     try clear hfz6_5
     try clear hfz8_0
     try clear hfz8_1
     try clear hfz8_2
     try clear hfz8_3
     try clear hfz8_4
     try clear hfz8_5
     try clear p2
     obtain ⟨x24_2, rfl, HA, HK2, BK101, HB⟩ := hrel
     cases gk with
     | zero => exact absurd HA.out (by simp [valid_words.l0])
     | succ k2 =>
      have H := HA.out
      clear HA
      simp only [valid_words.l0] at H
      by_cases c9 : x24_2 < (l0_3.length : Int)
      ·rw [if_pos c9] at H
       have c9b0 : decide (x24_2 < (l0_3.length : Int)) = true := decide_eq_true c9
       clear c9
       by_cases c10 : 0 ≤ x24_2
       ·rw [if_pos c10] at H
        have c10b0 : decide (0 ≤ x24_2) = true := decide_eq_true c10
        clear c10
        by_cases c11 : x24_2 < (l0_3.length : Int)
        ·rw [if_pos c11] at H
         have c11b0 : decide (x24_2 < (l0_3.length : Int)) = true := decide_eq_true c11
         clear c11
         replace H := Option.bind_eq_some_iff.mp H
         obtain ⟨⟨t103, t104, t105, t106, t107, t108⟩, A120, H⟩ := H
         replace H : (if t108 = 0 then (if t103 = 21 then (some (5, x24_2)) else (valid_words.l0 k2 l0_3 (l0_3.length : Int) (wrap64 (x24_2 + 1)))) else (some (5, x24_2))) = some (r1, r2) := H
         have A12 := Aside0.mk A120
         clear A120
         by_cases c13 : t108 = 0
         ·rw [if_pos c13] at H
          have c13b0 : (t108 == 0) = true := beq_iff_eq.mpr c13
          have c13b1 : (t108 != 0) = false := bne_eq_false_iff_eq.mpr c13
          clear c13
          by_cases c14 : t103 = 21
          ·rw [if_pos c14] at H
           have c14b0 : (t103 == 21) = true := beq_iff_eq.mpr c14
           have c14b1 : (t103 != 21) = false := bne_eq_false_iff_eq.mpr c14
           clear c14
           simp only [Option.some.injEq, Prod.mk.injEq] at H
           obtain ⟨rfl, rfl⟩ := H
           have p102 : 0 ≤ (x24_2 : Int) := of_decide_eq_true (by first | (with_reducible assumption) | assumption)
           have q102 : x24_2 < (l0_3.length : Int) := of_decide_eq_true (by first | (with_reducible assumption) | assumption)
           obtain ⟨ad102, e102, hx102_0⟩ := Kd.at_int HR0_3.out x24_2 p102 q102
           cases e102
           replace hx102_0 := (HB.out.cell (World.block_lt_of_cell? w _ hx102_0)).trans hx102_0
           replace p102 := eq_true p102
           replace q102 := eq_true q102
           go_wp2_with (first | ((with_reducible refine gate_callee (f := 21) rfl ?_); refine goesL_ (some 31) rfl rfl Tryd.func21 (by kernel_rfl) rfl #[.int .u32 (rd l0_3 x24_2)] rfl tm ?_; (with_reducible refine (isa_Decode.calls k2 (rd l0_3 x24_2) t103 t104 t105 t106 t107 t108 _ A12.out).mono ?_); rintro e w15 ⟨rfl, hb⟩; refine ⟨_, rfl, ?_⟩; replace BK101 := ba BK101.out hb; replace HB := Aside0.mk (below_step (tg1 HB.out GE101.out) hb); (try clear hb); (try clear hb2); (try clear hk); (try clear hi)) | ((with_reducible refine gate_dst (N := 6) rfl ?_); (try (refine gate_guard (by rfl) ?_; dsimp only)); refine box_event ?hg (N := 6) ?hd (cs := #[.int .u8 0, .int .u8 0, .int .u8 0, .int .u8 0, .int .i32 0]) (t := 47) ?hr ?_; (case hd => rfl); (case hg => rfl); (case hr => first | (go_simp; done) | (go_simp; rfl)); intro gb109 hg w16 hbox hb; have n0_ := ba BK101.out hb; have n1_ := Aside0.mk (below_step (tg1 HB.out GE101.out) hb); have n2_ := Aside0.mk (hbox); have n3_ := Aside0.mk ((by rw [hg]; exact (below_size (tg1 HB.out GE101.out)) : w.heap.size ≤ gb109)); have n4_ := Aside0.mk ((by rw [hg]; exact (below_size (tg1 HB.out GE101.out)) : w.heap.size ≤ gb109)); have n5_ := Aside0.mk ((by rw [hg]; exact Nat.ne_of_lt (blk_lt (g := gb101) (o := .cells #[.string a0_0, .slice A0_1 l0_1.length c0_1, .slice A0_2 l0_2.length c0_2, .slice (some ad102) l0_3.length c0_3, .slice A0_4 l0_4.length c0_4, .slice A0_5 l0_5.length c0_5] 26 (0, 0)) (tb BK101.out)) : gb101 ≠ gb109)); have n6_ := Aside0.mk ((by rw [hg]; exact Nat.ne_of_gt (blk_lt (g := gb101) (o := .cells #[.string a0_0, .slice A0_1 l0_1.length c0_1, .slice A0_2 l0_2.length c0_2, .slice (some ad102) l0_3.length c0_3, .slice A0_4 l0_4.length c0_4, .slice A0_5 l0_5.length c0_5] 26 (0, 0)) (tb BK101.out)) : gb109 ≠ gb101)); clear BK101; clear HB; have BK101 := n0_; have HB := n1_; have BK109 := n2_; have GW109 := n3_; have GE109 := n4_; have NB101_109 := n5_; have NB109_101 := n6_; clear n0_ n1_ n2_ n3_ n4_ n5_ n6_; clear hb hbox hg; have hnb17 := NB109_101.out; have hnc17 := NB101_109.out; have hcz18_0 := cz BK109.out 0 (.int .u8 0); have hcz18_1 := cz BK109.out 1 (.int .u8 0); have hcz18_2 := cz BK109.out 2 (.int .u8 0); have hcz18_3 := cz BK109.out 3 (.int .u8 0); have hcz18_4 := cz BK109.out 4 (.int .i32 0); have hfz18_0 := blk_frozen BK109.out 0; have hfz18_1 := blk_frozen BK109.out 1; have hfz18_2 := blk_frozen BK109.out 2; have hfz18_3 := blk_frozen BK109.out 3; have hfz18_4 := blk_frozen BK109.out 4))
           go_ret2
           exact ⟨by first | rfl | (simp [errW_none, errW_some] <;> rfl) | (simp [*, errW_none, errW_some] <;> rfl), tg2 HB.out GE101.out GE109.out⟩
          ·rw [if_neg c14] at H
           have c14b0 : (t103 == 21) = false := beq_eq_false_iff_ne.mpr c14
           have c14b1 : (t103 != 21) = true := bne_iff_ne.mpr c14
           have H' := Aside0.mk H
           clear H
           have p102 : 0 ≤ (x24_2 : Int) := of_decide_eq_true (by first | (with_reducible assumption) | assumption)
           have q102 : x24_2 < (l0_3.length : Int) := of_decide_eq_true (by first | (with_reducible assumption) | assumption)
           obtain ⟨ad102, e102, hx102_0⟩ := Kd.at_int HR0_3.out x24_2 p102 q102
           cases e102
           replace hx102_0 := (HB.out.cell (World.block_lt_of_cell? w _ hx102_0)).trans hx102_0
           replace p102 := eq_true p102
           replace q102 := eq_true q102
           go_wp2_with (first | ((with_reducible refine gate_callee (f := 21) rfl ?_); refine goesL_ (some 31) rfl rfl Tryd.func21 (by kernel_rfl) rfl #[.int .u32 (rd l0_3 x24_2)] rfl tm ?_; (with_reducible refine (isa_Decode.calls k2 (rd l0_3 x24_2) t103 t104 t105 t106 t107 t108 _ A12.out).mono ?_); rintro e w19 ⟨rfl, hb⟩; refine ⟨_, rfl, ?_⟩; replace BK101 := ba BK101.out hb; replace HB := Aside0.mk (below_step (tg1 HB.out GE101.out) hb); (try clear hb); (try clear hb2); (try clear hk); (try clear hi)) | ((with_reducible refine gate_dst (N := 6) rfl ?_); (try (refine gate_guard (by rfl) ?_; dsimp only)); refine box_event ?hg (N := 6) ?hd (cs := #[.int .u8 0, .int .u8 0, .int .u8 0, .int .u8 0, .int .i32 0]) (t := 47) ?hr ?_; (case hd => rfl); (case hg => rfl); (case hr => first | (go_simp; done) | (go_simp; rfl)); intro gb109 hg w20 hbox hb; have n0_ := ba BK101.out hb; have n1_ := Aside0.mk (below_step (tg1 HB.out GE101.out) hb); have n2_ := Aside0.mk (hbox); have n3_ := Aside0.mk ((by rw [hg]; exact (below_size (tg1 HB.out GE101.out)) : w.heap.size ≤ gb109)); have n4_ := Aside0.mk ((by rw [hg]; exact (below_size (tg1 HB.out GE101.out)) : w.heap.size ≤ gb109)); have n5_ := Aside0.mk ((by rw [hg]; exact Nat.ne_of_lt (blk_lt (g := gb101) (o := .cells #[.string a0_0, .slice A0_1 l0_1.length c0_1, .slice A0_2 l0_2.length c0_2, .slice (some ad102) l0_3.length c0_3, .slice A0_4 l0_4.length c0_4, .slice A0_5 l0_5.length c0_5] 26 (0, 0)) (tb BK101.out)) : gb101 ≠ gb109)); have n6_ := Aside0.mk ((by rw [hg]; exact Nat.ne_of_gt (blk_lt (g := gb101) (o := .cells #[.string a0_0, .slice A0_1 l0_1.length c0_1, .slice A0_2 l0_2.length c0_2, .slice (some ad102) l0_3.length c0_3, .slice A0_4 l0_4.length c0_4, .slice A0_5 l0_5.length c0_5] 26 (0, 0)) (tb BK101.out)) : gb109 ≠ gb101)); clear BK101; clear HB; have BK101 := n0_; have HB := n1_; have BK109 := n2_; have GW109 := n3_; have GE109 := n4_; have NB101_109 := n5_; have NB109_101 := n6_; clear n0_ n1_ n2_ n3_ n4_ n5_ n6_; clear hb hbox hg; have hnb21 := NB109_101.out; have hnc21 := NB101_109.out; have hcz22_0 := cz BK109.out 0 (.int .u8 0); have hcz22_1 := cz BK109.out 1 (.int .u8 0); have hcz22_2 := cz BK109.out 2 (.int .u8 0); have hcz22_3 := cz BK109.out 3 (.int .u8 0); have hcz22_4 := cz BK109.out 4 (.int .i32 0); have hfz22_0 := blk_frozen BK109.out 0; have hfz22_1 := blk_frozen BK109.out 1; have hfz22_2 := blk_frozen BK109.out 2; have hfz22_3 := blk_frozen BK109.out 3; have hfz22_4 := blk_frozen BK109.out 4))
           go_roundg k2
           case measure => have := HJ1.out; have := HK2.out; omega
           case rel => exact ⟨(wrap64 (x24_2 + 1)), (by first | rfl | (simp; done) | (simp [*]; done)), H', ⟨by have := HJ1.out; have := HK2.out; omega⟩, ⟨by (with_reducible repeat (first | refine blk_drewN ?_ _ | refine blk_drew ?_ | refine blk_alloc ?_ _)); refine blk_far ?_ NB101_109.out _; (with_reducible repeat (first | refine blk_drewN ?_ _ | refine blk_drew ?_ | refine blk_alloc ?_ _)); refine blk_far ?_ NB101_109.out _; (with_reducible repeat (first | refine blk_drewN ?_ _ | refine blk_drew ?_ | refine blk_alloc ?_ _)); refine blk_far ?_ NB101_109.out _; (with_reducible repeat (first | refine blk_drewN ?_ _ | refine blk_drew ?_ | refine blk_alloc ?_ _)); refine blk_far ?_ NB101_109.out _; (with_reducible repeat (first | refine blk_drewN ?_ _ | refine blk_drew ?_ | refine blk_alloc ?_ _)); refine blk_far ?_ NB101_109.out _; (with_reducible repeat (first | refine blk_drewN ?_ _ | refine blk_drew ?_ | refine blk_alloc ?_ _)); exact BK101.out⟩, ⟨tg2 HB.out GE101.out GE109.out⟩⟩
         ·rw [if_neg c13] at H
          have c13b0 : (t108 == 0) = false := beq_eq_false_iff_ne.mpr c13
          have c13b1 : (t108 != 0) = true := bne_iff_ne.mpr c13
          simp only [Option.some.injEq, Prod.mk.injEq] at H
          obtain ⟨rfl, rfl⟩ := H
          have p102 : 0 ≤ (x24_2 : Int) := of_decide_eq_true (by first | (with_reducible assumption) | assumption)
          have q102 : x24_2 < (l0_3.length : Int) := of_decide_eq_true (by first | (with_reducible assumption) | assumption)
          obtain ⟨ad102, e102, hx102_0⟩ := Kd.at_int HR0_3.out x24_2 p102 q102
          cases e102
          replace hx102_0 := (HB.out.cell (World.block_lt_of_cell? w _ hx102_0)).trans hx102_0
          replace p102 := eq_true p102
          replace q102 := eq_true q102
          go_wp2_with (first | ((with_reducible refine gate_callee (f := 21) rfl ?_); refine goesL_ (some 31) rfl rfl Tryd.func21 (by kernel_rfl) rfl #[.int .u32 (rd l0_3 x24_2)] rfl tm ?_; (with_reducible refine (isa_Decode.calls k2 (rd l0_3 x24_2) t103 t104 t105 t106 t107 t108 _ A12.out).mono ?_); rintro e w23 ⟨rfl, hb⟩; refine ⟨_, rfl, ?_⟩; replace BK101 := ba BK101.out hb; replace HB := Aside0.mk (below_step (tg1 HB.out GE101.out) hb); (try clear hb); (try clear hb2); (try clear hk); (try clear hi)) | ((with_reducible refine gate_dst (N := 6) rfl ?_); (try (refine gate_guard (by rfl) ?_; dsimp only)); refine box_event ?hg (N := 6) ?hd (cs := #[.int .u8 0, .int .u8 0, .int .u8 0, .int .u8 0, .int .i32 0]) (t := 47) ?hr ?_; (case hd => rfl); (case hg => rfl); (case hr => first | (go_simp; done) | (go_simp; rfl)); intro gb109 hg w24 hbox hb; have n0_ := ba BK101.out hb; have n1_ := Aside0.mk (below_step (tg1 HB.out GE101.out) hb); have n2_ := Aside0.mk (hbox); have n3_ := Aside0.mk ((by rw [hg]; exact (below_size (tg1 HB.out GE101.out)) : w.heap.size ≤ gb109)); have n4_ := Aside0.mk ((by rw [hg]; exact (below_size (tg1 HB.out GE101.out)) : w.heap.size ≤ gb109)); have n5_ := Aside0.mk ((by rw [hg]; exact Nat.ne_of_lt (blk_lt (g := gb101) (o := .cells #[.string a0_0, .slice A0_1 l0_1.length c0_1, .slice A0_2 l0_2.length c0_2, .slice (some ad102) l0_3.length c0_3, .slice A0_4 l0_4.length c0_4, .slice A0_5 l0_5.length c0_5] 26 (0, 0)) (tb BK101.out)) : gb101 ≠ gb109)); have n6_ := Aside0.mk ((by rw [hg]; exact Nat.ne_of_gt (blk_lt (g := gb101) (o := .cells #[.string a0_0, .slice A0_1 l0_1.length c0_1, .slice A0_2 l0_2.length c0_2, .slice (some ad102) l0_3.length c0_3, .slice A0_4 l0_4.length c0_4, .slice A0_5 l0_5.length c0_5] 26 (0, 0)) (tb BK101.out)) : gb109 ≠ gb101)); clear BK101; clear HB; have BK101 := n0_; have HB := n1_; have BK109 := n2_; have GW109 := n3_; have GE109 := n4_; have NB101_109 := n5_; have NB109_101 := n6_; clear n0_ n1_ n2_ n3_ n4_ n5_ n6_; clear hb hbox hg; have hnb25 := NB109_101.out; have hnc25 := NB101_109.out; have hcz26_0 := cz BK109.out 0 (.int .u8 0); have hcz26_1 := cz BK109.out 1 (.int .u8 0); have hcz26_2 := cz BK109.out 2 (.int .u8 0); have hcz26_3 := cz BK109.out 3 (.int .u8 0); have hcz26_4 := cz BK109.out 4 (.int .i32 0); have hfz26_0 := blk_frozen BK109.out 0; have hfz26_1 := blk_frozen BK109.out 1; have hfz26_2 := blk_frozen BK109.out 2; have hfz26_3 := blk_frozen BK109.out 3; have hfz26_4 := blk_frozen BK109.out 4))
          go_ret2
          exact ⟨by first | rfl | (simp [errW_none, errW_some] <;> rfl) | (simp [*, errW_none, errW_some] <;> rfl), tg2 HB.out GE101.out GE109.out⟩
        ·rw [if_neg c11] at H
         exact absurd H (by simp)
       ·rw [if_neg c10] at H
        exact absurd H (by simp)
      ·rw [if_neg c9] at H
       have c9b0 : decide (x24_2 < (l0_3.length : Int)) = false := decide_eq_false c9
       clear c9
       simp only [Option.some.injEq, Prod.mk.injEq] at H
       obtain ⟨rfl, rfl⟩ := H
       go_wp2
       go_ret2
       exact ⟨by first | rfl | (simp [errW_none, errW_some] <;> rfl) | (simp [*, errW_none, errW_some] <;> rfl), tg1 HB.out GE101.out⟩

end Go.Proofs.YtiphindialkmnaaDoor.X
end
section
namespace Go.Proofs.YtiphindialkmnaaDoor.X
open Go.RowKit Go.Proofs.YtiphindialkmnaaDoorW.PrintWords Go.Proofs.YtiphindialkmnaaDoorW.PrintLast Go.Proofs.YtiphindialkmnaaDoorW.PrintMore
attribute [local go_sem] max2_int min2_int max_two min_two max_three min_three max_four min_four
set_option linter.unusedVariables false
set_option linter.unusedSimpArgs false

/-! ### budwoodref10_Size: function 13 -/
def budwoodref10_Size.l0 : Nat → Int → List Int → Int → Option (Int)
 | 0, _, _, _ => none
 | k + 1, x3, x4, x5 => if x5 < 4 then (if x3 ≤ 65536 then (if 0 ≤ x5 then (if x5 < (x4.length : Int) then (budwoodref10_Size.l0 k (wrap64 (x3 + (mn (rd x4 x5) 65536))) x4 (wrap64 (x5 + 1))) else (none)) else (none)) else (some x3)) else (some x3)
def budwoodref10_Size.f (k : Nat) (a0_0 : ByteArray) (l0_1 : List ByteArray) (l0_2 : List ByteArray) (l0_3 : List Int) (l0_4 : List Int) (l0_5 : List (S43)) : Option (Int) := budwoodref10_Size.l0 k (l0_1.length : Int) (([(l0_2.length : Int), (l0_3.length : Int), (l0_4.length : Int), (l0_5.length : Int)] : List Int)) 0
theorem budwoodref10_Size.mono_l : ∀ k, (∀ y0 y1 y2, LeO (budwoodref10_Size.l0 k y0 y1 y2) (budwoodref10_Size.l0 (k + 1) y0 y1 y2))
 | 0 => fun _ _ _ r h => by simp [budwoodref10_Size.l0] at h
 | k + 1 => by
  have ih0 := budwoodref10_Size.mono_l k
  ·intro y0 y1 y2
   unfold budwoodref10_Size.l0
   repeat' first
   | (with_reducible exact ih0 _ _ _)
   | (with_reducible exact LeO.refl _)
   | (with_reducible exact LeO.none _)
   | (with_reducible refine LeO.ite ?_ ?_)
   | (with_reducible refine LeO.bind ?_ (fun _ => ?_))
   | exact ih0 _ _ _
   | exact LeO.none _
   | refine LeO.ite ?_ ?_
   | refine LeO.bind ?_ (fun _ => ?_)
theorem budwoodref10_Size.mono : ∀ a0 a1 a2 a3 a4 a5 k, LeO (budwoodref10_Size.f k a0 a1 a2 a3 a4 a5) (budwoodref10_Size.f (k + 1) a0 a1 a2 a3 a4 a5) := by
 intro a0 a1 a2 a3 a4 a5 k
 have ih0 := budwoodref10_Size.mono_l k
 unfold budwoodref10_Size.f
 repeat' first
   | (with_reducible exact ih0 _ _ _)
   | (with_reducible exact LeO.refl _)
   | (with_reducible exact LeO.none _)
   | (with_reducible refine LeO.ite ?_ ?_)
   | (with_reducible refine LeO.bind ?_ (fun _ => ?_))
   | exact ih0 _ _ _
   | exact LeO.none _
   | refine LeO.ite ?_ ?_
   | refine LeO.bind ?_ (fun _ => ?_)
set_option maxHeartbeats 8000000 in
set_option maxRecDepth 100000 in
theorem budwoodref10_Size.calls (k : Nat) (a0_0 : ByteArray) (A0_1 : Option Addr) (c0_1 : Nat) (l0_1 : List ByteArray) (A0_2 : Option Addr) (c0_2 : Nat) (l0_2 : List ByteArray) (A0_3 : Option Addr) (c0_3 : Nat) (l0_3 : List Int) (A0_4 : Option Addr) (c0_4 : Nat) (l0_4 : List Int) (A0_5 : Option Addr) (c0_5 : Nat) (l0_5 : List (S43)) (r : Int) (w : World) (hr0_1 : Kd.C Kd.string w A0_1 l0_1.length l0_1) (hc0_1 : l0_1.length ≤ c0_1) (hr0_2 : Kd.C Kd.string w A0_2 l0_2.length l0_2) (hc0_2 : l0_2.length ≤ c0_2) (hr0_3 : Kd.C (Kd.int .u32) w A0_3 l0_3.length l0_3) (hc0_3 : l0_3.length ≤ c0_3) (hr0_4 : Kd.C (Kd.int .u32) w A0_4 l0_4.length l0_4) (hc0_4 : l0_4.length ≤ c0_4) (hr0_5 : Kd.C k43 w A0_5 l0_5.length l0_5) (hc0_5 : l0_5.length ≤ c0_5) (h : budwoodref10_Size.f k a0_0 l0_1 l0_2 l0_3 l0_4 l0_5 = some r) :
  Calls Tryd.prog 13 #[.agg #[.string a0_0, .slice A0_1 l0_1.length c0_1, .slice A0_2 l0_2.length c0_2, .slice A0_3 l0_3.length c0_3, .slice A0_4 l0_4.length c0_4, .slice A0_5 l0_5.length c0_5]] w fun e w' => e = .returned (.int .i64 r) ∧ Below w.heap.size w w' := by
 have hu26 := Tryd.underlying26
 have HR0_1 := Aside0.mk hr0_1
 have HC0_1 := Aside0.mk hc0_1
 clear hr0_1 hc0_1
 have HR0_2 := Aside0.mk hr0_2
 have HC0_2 := Aside0.mk hc0_2
 clear hr0_2 hc0_2
 have HR0_3 := Aside0.mk hr0_3
 have HC0_3 := Aside0.mk hc0_3
 clear hr0_3 hc0_3
 have HR0_4 := Aside0.mk hr0_4
 have HC0_4 := Aside0.mk hc0_4
 clear hr0_4 hc0_4
 have HR0_5 := Aside0.mk hr0_5
 have HC0_5 := Aside0.mk hc0_5
 clear hr0_5 hc0_5
 have HB := Aside0.mk (Below.refl w.heap.size w)
 have H : (budwoodref10_Size.l0 k (l0_1.length : Int) (([(l0_2.length : Int), (l0_3.length : Int), (l0_4.length : Int), (l0_5.length : Int)] : List Int)) 0) = some r := h
 clear h
 obtain ⟨y102, hy102⟩ : ∃ y_ : List Int, y_ = (([(l0_2.length : Int), (l0_3.length : Int), (l0_4.length : Int), (l0_5.length : Int)] : List Int)) := ⟨_, rfl⟩
 replace H : (budwoodref10_Size.l0 k (l0_1.length : Int) y102 0) = some r := by first | (rw [hy102]; with_reducible exact H) | (have H2_ := (Option.bind_some _ _).symm.trans H; rw [hy102]; with_reducible exact H2_) | (have H2_ := (Option.bind_some _ _).symm.trans H; with_reducible exact H2_) | with_reducible exact H | (rw [hy102]; exact H) | exact H
 have Ny102 := Aside0.mk hy102
 clear hy102
 have H' := Aside0.mk H
 clear H
 go_enter Tryd.func13, Tryd.ntmps13
 go_wp2_with (first | ((with_reducible refine gate_dst (N := 1) rfl ?_); refine box_event ?hg (N := 1) ?hd (cs := #[.string a0_0, .slice A0_1 l0_1.length c0_1, .slice A0_2 l0_2.length c0_2, .slice A0_3 l0_3.length c0_3, .slice A0_4 l0_4.length c0_4, .slice A0_5 l0_5.length c0_5]) (t := 26) ?hr ?_; (case hd => rfl); (case hg => rfl); (case hr => first | (go_simp; done) | (go_simp; rfl)); intro gb101 hg w2 hbox hb; have n0_ := Aside0.mk (below_step (tg HB.out) hb); have n1_ := Aside0.mk (hbox); have n2_ := Aside0.mk ((by rw [hg]; exact (below_size (tg HB.out)) : w.heap.size ≤ gb101)); have n3_ := Aside0.mk ((by rw [hg]; exact (below_size (tg HB.out)) : w.heap.size ≤ gb101)); clear HB; have HB := n0_; have BK101 := n1_; have GW101 := n2_; have GE101 := n3_; clear n0_ n1_ n2_ n3_; clear hb hbox hg; have hcz3_0 := cz BK101.out 0 (.string a0_0); have hcz3_1 := cz BK101.out 1 (.slice A0_1 l0_1.length c0_1); have hcz3_2 := cz BK101.out 2 (.slice A0_2 l0_2.length c0_2); have hcz3_3 := cz BK101.out 3 (.slice A0_3 l0_3.length c0_3); have hcz3_4 := cz BK101.out 4 (.slice A0_4 l0_4.length c0_4); have hcz3_5 := cz BK101.out 5 (.slice A0_5 l0_5.length c0_5); have hfz3_0 := blk_frozen BK101.out 0; have hfz3_1 := blk_frozen BK101.out 1; have hfz3_2 := blk_frozen BK101.out 2; have hfz3_3 := blk_frozen BK101.out 3; have hfz3_4 := blk_frozen BK101.out 4; have hfz3_5 := blk_frozen BK101.out 5) | ((with_reducible refine gate_dst (N := 21) rfl ?_); refine Kd.R_lit (Kd.int .i64) _ 3 ?hg (N := 21) ?hd (xs := ([(l0_2.length : Int), (l0_3.length : Int), (l0_4.length : Int), (l0_5.length : Int)] : List Int)) (inner := [.int .i64 (l0_2.length : Int), .int .i64 (l0_3.length : Int), .int .i64 (l0_4.length : Int), .int .i64 (l0_5.length : Int)]) (ok := fun _ => True) (okp := fun _ => True) ?hr ?hp (fun _ hk => hk) trivial (Below.refl _ _) (Nat.le_refl _) (by simp) ?_; (case hd => rfl); (case hg => rfl); (case hr => first | (go_simp; done) | (go_simp; rfl)); (case hp => exact (Reps.one (show Kd.M (Kd.int .i64) _ _ _ (l0_2.length : Int) [.int .i64 (l0_2.length : Int)] from rfl) (Reps.one (show Kd.M (Kd.int .i64) _ _ _ (l0_3.length : Int) [.int .i64 (l0_3.length : Int)] from rfl) (Reps.one (show Kd.M (Kd.int .i64) _ _ _ (l0_4.length : Int) [.int .i64 (l0_4.length : Int)] from rfl) (Reps.one (show Kd.M (Kd.int .i64) _ _ _ (l0_5.length : Int) [.int .i64 (l0_5.length : Int)] from rfl) (Reps.none _ _)))))); intro v103 w4 ho5 hb hg_ hnew_; clear hg_ hnew_; (first | rw [← Ny102.out] at ho5 | (simp only [Int.reduceToNat] at ho5; rw [← Ny102.out] at ho5)); have HO104 := Aside0.mk (Kd.R_lower ho5 (below_size (tg1 HB.out GE101.out))); replace BK101 := ba BK101.out hb; replace HB := Aside0.mk (below_step (tg1 HB.out GE101.out) hb); clear hb ho5))
 go_loopg [3, 5] k (fun kq v3 v5 w' => ∃ (x3_1 : Int) (x5_1 : Int), v3 = .int .i64 x3_1 ∧ v5 = .int .i64 x5_1 ∧ Aside0 (budwoodref10_Size.l0 kq x3_1 y102 x5_1 = some r) ∧ Aside0 (kq ≤ k) ∧ Aside0 (Kd.R (Kd.int .i64) 3 w' w.heap.size (fun _ => True) v103 y102) ∧ Aside0 (w'.heap[gb101]? = some (.cells #[.string a0_0, (.slice A0_1 l0_1.length c0_1), (.slice A0_2 l0_2.length c0_2), (.slice A0_3 l0_3.length c0_3), (.slice A0_4 l0_4.length c0_4), (.slice A0_5 l0_5.length c0_5)] 26 (0, 0))) ∧ Aside0 (Below w.heap.size w w'))
 case atStart => exact ⟨((l0_1.length : Int)), (0), (by first | rfl | (simp; done) | (simp [*]; done)), (by first | rfl | (simp; done) | (simp [*]; done)), H', ⟨Nat.le_refl _⟩, ⟨by (with_reducible repeat (first | apply Kd.R_alloc | apply Kd.R_drewN | apply Kd.R_drew)); exact HO104.out⟩, ⟨by (with_reducible repeat (first | refine blk_drewN ?_ _ | refine blk_drew ?_ | refine blk_alloc ?_ _)); exact BK101.out⟩, ⟨tg1 HB.out GE101.out⟩⟩
 case round =>
  clear H'
  try clear c1
  try clear p2
  try clear hcz3_0
  try clear hcz3_1
  try clear hcz3_2
  try clear hcz3_3
  try clear hcz3_4
  try clear hcz3_5
  try clear hfz3_0
  try clear hfz3_1
  try clear hfz3_2
  try clear hfz3_3
  try clear hfz3_4
  try clear hfz3_5
  obtain ⟨x3_1, x5_1, rfl, rfl, HA, HK1, HO_4, BK101, HB⟩ := hrel
  cases gk with
  | zero => exact absurd HA.out (by simp [budwoodref10_Size.l0])
  | succ k1 =>
   have H := HA.out
   clear HA
   simp only [budwoodref10_Size.l0] at H
   by_cases c6 : x5_1 < 4
   ·rw [if_pos c6] at H
    have c6b0 : decide (x5_1 < 4) = true := decide_eq_true c6
    clear c6
    by_cases c7 : x3_1 ≤ 65536
    ·rw [if_pos c7] at H
     have c7b0 : decide (x3_1 ≤ 65536) = true := decide_eq_true c7
     clear c7
     by_cases c8 : 0 ≤ x5_1
     ·rw [if_pos c8] at H
      have c8b0 : decide (0 ≤ x5_1) = true := decide_eq_true c8
      clear c8
      by_cases c9 : x5_1 < (y102.length : Int)
      ·rw [if_pos c9] at H
       have c9b0 : decide (x5_1 < (y102.length : Int)) = true := decide_eq_true c9
       clear c9
       obtain ⟨ji10, hji10⟩ : ∃ j_ : Int, (mn (rd y102 x5_1) 65536) = j_ := ⟨_, rfl⟩
       replace H : (budwoodref10_Size.l0 k1 (wrap64 (x3_1 + (ji10))) y102 (wrap64 (x5_1 + 1))) = some r := by first | (rw [hji10] at H; exact H) | (simp only [hji10] at H ⊢; exact H)
       have hji10_ : (if 65536 < (rd y102 x5_1) then 65536 else (rd y102 x5_1)) = ji10 := hji10
       have H' := Aside0.mk H
       clear H
       obtain ⟨Ao11, co11, eo11⟩ := Kd.R_slice HO_4.out
       subst eo11
       have p105 : 0 ≤ (x5_1 : Int) := of_decide_eq_true (by first | (with_reducible assumption) | assumption)
       have q105 : x5_1 < (y102.length : Int) := of_decide_eq_true (by first | (with_reducible assumption) | assumption)
       obtain ⟨ad105, e105, hx105_0⟩ := Kd.at_int (Kd.R_reads' HO_4.out).2.2 x5_1 p105 q105
       cases e105
       replace p105 := eq_true p105
       replace q105 := eq_true q105
       go_wp2
       go_roundg k1
       case measure => have := HK1.out; omega
       case rel => exact ⟨(wrap64 (x3_1 + (ji10))), (wrap64 (x5_1 + 1)), (by first | rfl | (simp; done) | (simp only [← hji10] <;> (first | rfl | simp)) | (simp [*]; done)), (by first | rfl | (simp; done) | (simp [*]; done)), H', ⟨by have := HK1.out; omega⟩, ⟨by (with_reducible repeat (first | apply Kd.R_alloc | apply Kd.R_drewN | apply Kd.R_drew)); exact HO_4.out⟩, ⟨by (with_reducible repeat (first | refine blk_drewN ?_ _ | refine blk_drew ?_ | refine blk_alloc ?_ _)); exact BK101.out⟩, ⟨tg1 HB.out GE101.out⟩⟩
      ·rw [if_neg c9] at H
       exact absurd H (by simp)
     ·rw [if_neg c8] at H
      exact absurd H (by simp)
    ·rw [if_neg c7] at H
     have c7b0 : decide (x3_1 ≤ 65536) = false := decide_eq_false c7
     clear c7
     obtain rfl := Option.some.inj H
     go_wp2
     go_ret
     exact ⟨by first | rfl | (simp [errW_none, errW_some] <;> rfl) | (simp [*, errW_none, errW_some] <;> rfl), tg1 HB.out GE101.out⟩
   ·rw [if_neg c6] at H
    have c6b0 : decide (x5_1 < 4) = false := decide_eq_false c6
    clear c6
    obtain rfl := Option.some.inj H
    go_wp2
    go_ret
    exact ⟨by first | rfl | (simp [errW_none, errW_some] <;> rfl) | (simp [*, errW_none, errW_some] <;> rfl), tg1 HB.out GE101.out⟩

end Go.Proofs.YtiphindialkmnaaDoor.X
end
