/- Texts that the proof rests on, part 6. -/
import Derived.Test.YtiphindialkmnaaDoorMCalls5
section
namespace Go.Proofs.YtiphindialkmnaaDoor.X
open Go.RowKit Go.Proofs.YtiphindialkmnaaDoorW.PrintWords Go.Proofs.YtiphindialkmnaaDoorW.PrintLast Go.Proofs.YtiphindialkmnaaDoorW.PrintMore
attribute [local go_sem] max2_int min2_int max_two min_two max_three min_three max_four min_four
set_option linter.unusedVariables false
set_option linter.unusedSimpArgs false

/-! ### object_Check: function 37 -/
mutual
def object_Check.j0 : Nat → Unit → Bool → ByteArray → List ByteArray → List ByteArray → List Int → List Int → List (S43) → Option (Int)
  | 0, _, _, _, _, _, _, _, _ => none
  | k + 1, x3, x4, x102000, x102001, x102002, x102003, x102004, x102005 => if x4 = true then (some 5) else (if (x102003.length : Int) > 512 then (object_Check.j1 k x3 true x102000 x102001 x102002 x102003 x102004 x102005) else (object_Check.j1 k x3 (decide ((x102004.length : Int) > 128)) x102000 x102001 x102002 x102003 x102004 x102005))
def object_Check.j1 : Nat → Unit → Bool → ByteArray → List ByteArray → List ByteArray → List Int → List Int → List (S43) → Option (Int)
  | 0, _, _, _, _, _, _, _, _ => none
  | k + 1, x3, x21, x102000, x102001, x102002, x102003, x102004, x102005 => if x21 = true then (some 5) else ((object_Check_1.f x102000).bind fun t102 => (if t102 = true then (object_Check.j2 k true x102000 x102001 x102002 x102003 x102004 x102005) else ((ContainsFunc_long.f k x102001 x3).bind fun t103 => (if t103 = true then (object_Check.j2 k true x102000 x102001 x102002 x102003 x102004 x102005) else ((ContainsFunc_long.f k x102002 x3).bind fun t104 => (object_Check.j2 k t104 x102000 x102001 x102002 x102003 x102004 x102005))))))
def object_Check.j2 : Nat → Bool → ByteArray → List ByteArray → List ByteArray → List Int → List Int → List (S43) → Option (Int)
  | 0, _, _, _, _, _, _, _ => none
  | k + 1, x32, x102000, x102001, x102002, x102003, x102004, x102005 => if x32 = true then (some 5) else ((ContainsFunc_kind.f k x102005 ()).bind fun t105 => (if t105 = true then (some 2) else (some 0)))
end
def object_Check.f (k : Nat) (a0_0 : ByteArray) (l0_1 : List ByteArray) (l0_2 : List ByteArray) (l0_3 : List Int) (l0_4 : List Int) (l0_5 : List (S43)) : Option (Int) := if (l0_1.length : Int) > 8 then (object_Check.j0 k () true a0_0 l0_1 l0_2 l0_3 l0_4 l0_5) else (if (l0_2.length : Int) > 16 then (object_Check.j0 k () true a0_0 l0_1 l0_2 l0_3 l0_4 l0_5) else (object_Check.j0 k () (decide ((l0_5.length : Int) > 256)) a0_0 l0_1 l0_2 l0_3 l0_4 l0_5))
theorem object_Check.mono_l : ∀ k, (∀ y0 y1 y2 y3 y4 y5 y6 y7, LeO (object_Check.j0 k y0 y1 y2 y3 y4 y5 y6 y7) (object_Check.j0 (k + 1) y0 y1 y2 y3 y4 y5 y6 y7)) ∧ (∀ y0 y1 y2 y3 y4 y5 y6 y7, LeO (object_Check.j1 k y0 y1 y2 y3 y4 y5 y6 y7) (object_Check.j1 (k + 1) y0 y1 y2 y3 y4 y5 y6 y7)) ∧ (∀ y0 y1 y2 y3 y4 y5 y6, LeO (object_Check.j2 k y0 y1 y2 y3 y4 y5 y6) (object_Check.j2 (k + 1) y0 y1 y2 y3 y4 y5 y6))
  | 0 => ⟨fun _ _ _ _ _ _ _ _ r h => by simp [object_Check.j0] at h, fun _ _ _ _ _ _ _ _ r h => by simp [object_Check.j1] at h, fun _ _ _ _ _ _ _ r h => by simp [object_Check.j2] at h⟩
  | k + 1 => by
    obtain ⟨ih0, ih1, ih2⟩ := object_Check.mono_l k
    refine ⟨?_, ?_, ?_⟩
    · intro y0 y1 y2 y3 y4 y5 y6 y7
      unfold object_Check.j0
      repeat' first
      | (with_reducible exact ih0 _ _ _ _ _ _ _ _)
      | (with_reducible exact ih1 _ _ _ _ _ _ _ _)
      | (with_reducible exact ih2 _ _ _ _ _ _ _)
      | (with_reducible exact ContainsFunc_kind.mono _ _ _)
      | (with_reducible exact ContainsFunc_long.mono _ _ _)
      | (with_reducible exact LeO.refl _)
      | (with_reducible exact LeO.none _)
      | (with_reducible refine LeO.ite ?_ ?_)
      | (with_reducible refine LeO.bind ?_ (fun _ => ?_))
      | exact ih0 _ _ _ _ _ _ _ _
      | exact ih1 _ _ _ _ _ _ _ _
      | exact ih2 _ _ _ _ _ _ _
      | exact ContainsFunc_kind.mono _ _ _
      | exact ContainsFunc_long.mono _ _ _
      | exact LeO.none _
      | refine LeO.ite ?_ ?_
      | refine LeO.bind ?_ (fun _ => ?_)
    · intro y0 y1 y2 y3 y4 y5 y6 y7
      unfold object_Check.j1
      repeat' first
      | (with_reducible exact ih0 _ _ _ _ _ _ _ _)
      | (with_reducible exact ih1 _ _ _ _ _ _ _ _)
      | (with_reducible exact ih2 _ _ _ _ _ _ _)
      | (with_reducible exact ContainsFunc_kind.mono _ _ _)
      | (with_reducible exact ContainsFunc_long.mono _ _ _)
      | (with_reducible exact LeO.refl _)
      | (with_reducible exact LeO.none _)
      | (with_reducible refine LeO.ite ?_ ?_)
      | (with_reducible refine LeO.bind ?_ (fun _ => ?_))
      | exact ih0 _ _ _ _ _ _ _ _
      | exact ih1 _ _ _ _ _ _ _ _
      | exact ih2 _ _ _ _ _ _ _
      | exact ContainsFunc_kind.mono _ _ _
      | exact ContainsFunc_long.mono _ _ _
      | exact LeO.none _
      | refine LeO.ite ?_ ?_
      | refine LeO.bind ?_ (fun _ => ?_)
    · intro y0 y1 y2 y3 y4 y5 y6
      unfold object_Check.j2
      repeat' first
      | (with_reducible exact ih0 _ _ _ _ _ _ _ _)
      | (with_reducible exact ih1 _ _ _ _ _ _ _ _)
      | (with_reducible exact ih2 _ _ _ _ _ _ _)
      | (with_reducible exact ContainsFunc_kind.mono _ _ _)
      | (with_reducible exact ContainsFunc_long.mono _ _ _)
      | (with_reducible exact LeO.refl _)
      | (with_reducible exact LeO.none _)
      | (with_reducible refine LeO.ite ?_ ?_)
      | (with_reducible refine LeO.bind ?_ (fun _ => ?_))
      | exact ih0 _ _ _ _ _ _ _ _
      | exact ih1 _ _ _ _ _ _ _ _
      | exact ih2 _ _ _ _ _ _ _
      | exact ContainsFunc_kind.mono _ _ _
      | exact ContainsFunc_long.mono _ _ _
      | exact LeO.none _
      | refine LeO.ite ?_ ?_
      | refine LeO.bind ?_ (fun _ => ?_)
theorem object_Check.mono : ∀ a0 a1 a2 a3 a4 a5 k, LeO (object_Check.f k a0 a1 a2 a3 a4 a5) (object_Check.f (k + 1) a0 a1 a2 a3 a4 a5) := by
  intro a0 a1 a2 a3 a4 a5 k
  obtain ⟨ih0, ih1, ih2⟩ := object_Check.mono_l k
  unfold object_Check.f
  repeat' first
      | (with_reducible exact ih0 _ _ _ _ _ _ _ _)
      | (with_reducible exact ih1 _ _ _ _ _ _ _ _)
      | (with_reducible exact ih2 _ _ _ _ _ _ _)
      | (with_reducible exact ContainsFunc_kind.mono _ _ _)
      | (with_reducible exact ContainsFunc_long.mono _ _ _)
      | (with_reducible exact LeO.refl _)
      | (with_reducible exact LeO.none _)
      | (with_reducible refine LeO.ite ?_ ?_)
      | (with_reducible refine LeO.bind ?_ (fun _ => ?_))
      | exact ih0 _ _ _ _ _ _ _ _
      | exact ih1 _ _ _ _ _ _ _ _
      | exact ih2 _ _ _ _ _ _ _
      | exact ContainsFunc_kind.mono _ _ _
      | exact ContainsFunc_long.mono _ _ _
      | exact LeO.none _
      | refine LeO.ite ?_ ?_
      | refine LeO.bind ?_ (fun _ => ?_)
set_option maxHeartbeats 8000000 in
set_option maxRecDepth 100000 in
theorem object_Check.calls (k : Nat) (a0_0 : ByteArray) (A0_1 : Option Addr) (c0_1 : Nat) (l0_1 : List ByteArray) (A0_2 : Option Addr) (c0_2 : Nat) (l0_2 : List ByteArray) (A0_3 : Option Addr) (c0_3 : Nat) (l0_3 : List Int) (A0_4 : Option Addr) (c0_4 : Nat) (l0_4 : List Int) (A0_5 : Option Addr) (c0_5 : Nat) (l0_5 : List (S43)) (r : Int) (w : World) (hr0_1 : Kd.C Kd.string w A0_1 l0_1.length l0_1) (hc0_1 : l0_1.length ≤ c0_1) (hr0_2 : Kd.C Kd.string w A0_2 l0_2.length l0_2) (hc0_2 : l0_2.length ≤ c0_2) (hr0_3 : Kd.C (Kd.int .u32) w A0_3 l0_3.length l0_3) (hc0_3 : l0_3.length ≤ c0_3) (hr0_4 : Kd.C (Kd.int .u32) w A0_4 l0_4.length l0_4) (hc0_4 : l0_4.length ≤ c0_4) (hr0_5 : Kd.C k43 w A0_5 l0_5.length l0_5) (hc0_5 : l0_5.length ≤ c0_5) (h : object_Check.f k a0_0 l0_1 l0_2 l0_3 l0_4 l0_5 = some r) :
    Calls Tryd.prog 37 #[.agg #[.string a0_0, .slice A0_1 l0_1.length c0_1, .slice A0_2 l0_2.length c0_2, .slice A0_3 l0_3.length c0_3, .slice A0_4 l0_4.length c0_4, .slice A0_5 l0_5.length c0_5]] w fun e w' => e = .returned (.int .i64 r) ∧ Below w.heap.size w w' := by
  have hu26 := Tryd.underlying26
  have HR0_1 := Aside0.mk hr0_1
  have HC0_1 := Aside0.mk hc0_1
  clear hr0_1 hc0_1
  have HR0_2 := Aside0.mk hr0_2
  have HC0_2 := Aside0.mk hc0_2
  clear hr0_2 hc0_2
  have HR0_3 := Aside0.mk hr0_3
  have HC0_3 := Aside0.mk hc0_3
  clear hr0_3 hc0_3
  have HR0_4 := Aside0.mk hr0_4
  have HC0_4 := Aside0.mk hc0_4
  clear hr0_4 hc0_4
  have HR0_5 := Aside0.mk hr0_5
  have HC0_5 := Aside0.mk hc0_5
  clear hr0_5 hc0_5
  have HB := Aside0.mk (Below.refl w.heap.size w)
  have H : (if (l0_1.length : Int) > 8 then (object_Check.j0 k () true a0_0 l0_1 l0_2 l0_3 l0_4 l0_5) else (if (l0_2.length : Int) > 16 then (object_Check.j0 k () true a0_0 l0_1 l0_2 l0_3 l0_4 l0_5) else (object_Check.j0 k () (decide ((l0_5.length : Int) > 256)) a0_0 l0_1 l0_2 l0_3 l0_4 l0_5))) = some r := h
  clear h
  have HC2 := Aside0.mk H
  clear H
  go_enter Tryd.func37, Tryd.ntmps37
  go_upto_region 2 with (first | ((with_reducible refine gate_dst (N := 1) rfl ?_); (try (refine gate_guard (by rfl) ?_; dsimp only)); refine box_event ?hg (N := 1) ?hd (cs := #[.string a0_0, .slice A0_1 l0_1.length c0_1, .slice A0_2 l0_2.length c0_2, .slice A0_3 l0_3.length c0_3, .slice A0_4 l0_4.length c0_4, .slice A0_5 l0_5.length c0_5]) (t := 26) ?hr ?_; (case hd => rfl); (case hg => rfl); (case hr => first | (go_simp; done) | (go_simp; rfl)); intro gb101 hg w3 hbox hb; have n0_ := Aside0.mk (below_step (by repeat (first | (with_reducible first | exact HB.out | apply below_alloc | apply pw_below_drewN | apply below_drew1) | exact HB.out)) hb); have n1_ := Aside0.mk (hbox); have n2_ := Aside0.mk ((by rw [hg]; exact (below_size (by repeat (first | (with_reducible first | exact HB.out | apply below_alloc | apply pw_below_drewN | apply below_drew1) | exact HB.out))) : w.heap.size ≤ gb101)); have n3_ := Aside0.mk ((by rw [hg]; exact (below_size (by repeat (first | (with_reducible first | exact HB.out | apply below_alloc | apply pw_below_drewN | apply below_drew1) | exact HB.out))) : w.heap.size ≤ gb101)); clear HB; have HB := n0_; have BK101 := n1_; have GW101 := n2_; have GE101 := n3_; clear n0_ n1_ n2_ n3_; clear hb hbox hg))
  (try simp only [Act.put, List.setIfInBounds_toArray, List.set_cons_zero, List.set_cons_succ])
  go_cut [4] (fun v4 wc => ∃ (kq : Nat) (x4_1 : Bool), v4 = .bool x4_1 ∧ Aside0 (object_Check.j0 kq () x4_1 a0_0 l0_1 l0_2 l0_3 l0_4 l0_5 = some r) ∧ Aside0 (kq ≤ k) ∧ Aside0 (wc.heap[gb101]? = some (.cells #[.string a0_0, (.slice A0_1 l0_1.length c0_1), (.slice A0_2 l0_2.length c0_2), (.slice A0_3 l0_3.length c0_3), (.slice A0_4 l0_4.length c0_4), (.slice A0_5 l0_5.length c0_5)] 26 (0, 0))) ∧ Aside0 (Below w.heap.size w wc))
  case first =>
    have H := HC2.out
    clear HC2
    by_cases c4 : (l0_1.length : Int) > 8
    · rw [if_pos c4] at H
      have c4b0 : decide (8 < (l0_1.length : Int)) = true := decide_eq_true c4
      have c4b1 : decide (8 < l0_1.length) = true := decide_eq_true (by omega)
      clear c4
      (first | rw [c4b0] | (simp only [i64_w, i32_w]; rw [c4b0]) | skip)
      have H' := Aside0.mk H
      clear H
      have hcz5_0 : w3.cell? ⟨gb101, 0, none⟩ = some (.string a0_0) := (blk_cell BK101.out 0).trans rfl
      have hcz5_1 : w3.cell? ⟨gb101, 1, none⟩ = some (.slice A0_1 l0_1.length c0_1) := (blk_cell BK101.out 1).trans rfl
      have hcz5_2 : w3.cell? ⟨gb101, 2, none⟩ = some (.slice A0_2 l0_2.length c0_2) := (blk_cell BK101.out 2).trans rfl
      have hcz5_3 : w3.cell? ⟨gb101, 3, none⟩ = some (.slice A0_3 l0_3.length c0_3) := (blk_cell BK101.out 3).trans rfl
      have hcz5_4 : w3.cell? ⟨gb101, 4, none⟩ = some (.slice A0_4 l0_4.length c0_4) := (blk_cell BK101.out 4).trans rfl
      have hcz5_5 : w3.cell? ⟨gb101, 5, none⟩ = some (.slice A0_5 l0_5.length c0_5) := (blk_cell BK101.out 5).trans rfl
      have hfz5_0 := blk_frozen BK101.out 0
      have hfz5_1 := blk_frozen BK101.out 1
      have hfz5_2 := blk_frozen BK101.out 2
      have hfz5_3 := blk_frozen BK101.out 3
      have hfz5_4 := blk_frozen BK101.out 4
      have hfz5_5 := blk_frozen BK101.out 5
      go_wp2
      go_meet
      case rel => exact ⟨_, (true), (by first | rfl | (simp; done) | (simp [*]; done)), H', ⟨by first | omega | exact Nat.le_refl _⟩, ⟨by (with_reducible repeat (first | refine blk_drewN ?_ _ | refine blk_drew ?_ | refine blk_alloc ?_ _)); exact BK101.out⟩, ⟨by repeat (first | (with_reducible first | exact HB.out | apply below_alloc | apply pw_below_drewN | apply below_drew1 | refine below_set ?_ GE101.out) | exact HB.out)⟩⟩
    · rw [if_neg c4] at H
      have c4b0 : decide (8 < (l0_1.length : Int)) = false := decide_eq_false c4
      have c4b1 : decide (8 < l0_1.length) = false := decide_eq_false (by omega)
      clear c4
      (first | rw [c4b0] | (simp only [i64_w, i32_w]; rw [c4b0]) | skip)
      by_cases c6 : (l0_2.length : Int) > 16
      · rw [if_pos c6] at H
        have c6b0 : decide (16 < (l0_2.length : Int)) = true := decide_eq_true c6
        have c6b1 : decide (16 < l0_2.length) = true := decide_eq_true (by omega)
        clear c6
        have H' := Aside0.mk H
        clear H
        have hcz7_0 : w3.cell? ⟨gb101, 0, none⟩ = some (.string a0_0) := (blk_cell BK101.out 0).trans rfl
        have hcz7_1 : w3.cell? ⟨gb101, 1, none⟩ = some (.slice A0_1 l0_1.length c0_1) := (blk_cell BK101.out 1).trans rfl
        have hcz7_2 : w3.cell? ⟨gb101, 2, none⟩ = some (.slice A0_2 l0_2.length c0_2) := (blk_cell BK101.out 2).trans rfl
        have hcz7_3 : w3.cell? ⟨gb101, 3, none⟩ = some (.slice A0_3 l0_3.length c0_3) := (blk_cell BK101.out 3).trans rfl
        have hcz7_4 : w3.cell? ⟨gb101, 4, none⟩ = some (.slice A0_4 l0_4.length c0_4) := (blk_cell BK101.out 4).trans rfl
        have hcz7_5 : w3.cell? ⟨gb101, 5, none⟩ = some (.slice A0_5 l0_5.length c0_5) := (blk_cell BK101.out 5).trans rfl
        have hfz7_0 := blk_frozen BK101.out 0
        have hfz7_1 := blk_frozen BK101.out 1
        have hfz7_2 := blk_frozen BK101.out 2
        have hfz7_3 := blk_frozen BK101.out 3
        have hfz7_4 := blk_frozen BK101.out 4
        have hfz7_5 := blk_frozen BK101.out 5
        go_wp2
        go_meet
        case rel => exact ⟨_, (true), (by first | rfl | (simp; done) | (simp [*]; done)), H', ⟨by first | omega | exact Nat.le_refl _⟩, ⟨by (with_reducible repeat (first | refine blk_drewN ?_ _ | refine blk_drew ?_ | refine blk_alloc ?_ _)); exact BK101.out⟩, ⟨by repeat (first | (with_reducible first | exact HB.out | apply below_alloc | apply pw_below_drewN | apply below_drew1 | refine below_set ?_ GE101.out) | exact HB.out)⟩⟩
      · rw [if_neg c6] at H
        have c6b0 : decide (16 < (l0_2.length : Int)) = false := decide_eq_false c6
        have c6b1 : decide (16 < l0_2.length) = false := decide_eq_false (by omega)
        clear c6
        have H' := Aside0.mk H
        clear H
        have hcz8_0 : w3.cell? ⟨gb101, 0, none⟩ = some (.string a0_0) := (blk_cell BK101.out 0).trans rfl
        have hcz8_1 : w3.cell? ⟨gb101, 1, none⟩ = some (.slice A0_1 l0_1.length c0_1) := (blk_cell BK101.out 1).trans rfl
        have hcz8_2 : w3.cell? ⟨gb101, 2, none⟩ = some (.slice A0_2 l0_2.length c0_2) := (blk_cell BK101.out 2).trans rfl
        have hcz8_3 : w3.cell? ⟨gb101, 3, none⟩ = some (.slice A0_3 l0_3.length c0_3) := (blk_cell BK101.out 3).trans rfl
        have hcz8_4 : w3.cell? ⟨gb101, 4, none⟩ = some (.slice A0_4 l0_4.length c0_4) := (blk_cell BK101.out 4).trans rfl
        have hcz8_5 : w3.cell? ⟨gb101, 5, none⟩ = some (.slice A0_5 l0_5.length c0_5) := (blk_cell BK101.out 5).trans rfl
        have hfz8_0 := blk_frozen BK101.out 0
        have hfz8_1 := blk_frozen BK101.out 1
        have hfz8_2 := blk_frozen BK101.out 2
        have hfz8_3 := blk_frozen BK101.out 3
        have hfz8_4 := blk_frozen BK101.out 4
        have hfz8_5 := blk_frozen BK101.out 5
        go_wp2
        go_meet
        case rel => exact ⟨_, (decide ((l0_5.length : Int) > 256)), (by first | rfl | (simp; done) | (simp [*]; done)), H', ⟨by first | omega | exact Nat.le_refl _⟩, ⟨by (with_reducible repeat (first | refine blk_drewN ?_ _ | refine blk_drew ?_ | refine blk_alloc ?_ _)); exact BK101.out⟩, ⟨by repeat (first | (with_reducible first | exact HB.out | apply below_alloc | apply pw_below_drewN | apply below_drew1 | refine below_set ?_ GE101.out) | exact HB.out)⟩⟩
  case rest =>
    clear HC2
    try clear p2
    try clear c3
    try clear c4
    try clear c4b0
    try clear c4b1
    try clear c6
    try clear c6b0
    try clear c6b1
    try clear hcz5_0
    try clear hcz5_1
    try clear hcz5_2
    try clear hcz5_3
    try clear hcz5_4
    try clear hcz5_5
    try clear hcz7_0
    try clear hcz7_1
    try clear hcz7_2
    try clear hcz7_3
    try clear hcz7_4
    try clear hcz7_5
    try clear hcz8_0
    try clear hcz8_1
    try clear hcz8_2
    try clear hcz8_3
    try clear hcz8_4
    try clear hcz8_5
    try clear hfz5_0
    try clear hfz5_1
    try clear hfz5_2
    try clear hfz5_3
    try clear hfz5_4
    try clear hfz5_5
    try clear hfz7_0
    try clear hfz7_1
    try clear hfz7_2
    try clear hfz7_3
    try clear hfz7_4
    try clear hfz7_5
    try clear hfz8_0
    try clear hfz8_1
    try clear hfz8_2
    try clear hfz8_3
    try clear hfz8_4
    try clear hfz8_5
    obtain ⟨kq, x4_1, rfl, HA, HJ1, BK101, HB⟩ := hcut
    cases kq with
    | zero => exact absurd HA.out (by simp [object_Check.j0])
    | succ kj1 =>
      have H := HA.out
      clear HA
      simp only [object_Check.j0] at H
      by_cases c9 : x4_1 = true
      · subst c9
        have H1 : (some 5) = some r := by rw [if_pos rfl] at H; exact H
        clear H
        have H := H1
        clear H1
        obtain rfl := Option.some.inj H
        go_wp2
        go_ret
        exact ⟨by first | rfl | (simp [errW_none, errW_some] <;> rfl) | (simp [*, errW_none, errW_some] <;> rfl), by repeat (first | (with_reducible first | exact HB.out | apply below_alloc | apply pw_below_drewN | apply below_drew1 | refine below_set ?_ GE101.out) | exact HB.out)⟩
      · replace c9 := Bool.eq_false_iff.mpr c9
        subst c9
        have H1 : (if (l0_3.length : Int) > 512 then (object_Check.j1 kj1 () true a0_0 l0_1 l0_2 l0_3 l0_4 l0_5) else (object_Check.j1 kj1 () (decide ((l0_4.length : Int) > 128)) a0_0 l0_1 l0_2 l0_3 l0_4 l0_5)) = some r := by rw [if_neg (show ¬ (false = true) by decide)] at H; exact H
        clear H
        have H := H1
        clear H1
        have HC10 := Aside0.mk H
        clear H
        go_upto_region 4 with (fail)
        go_cut [21] (fun v21 wc => ∃ (kq : Nat) (x21_9 : Bool), v21 = .bool x21_9 ∧ Aside0 (object_Check.j1 kq () x21_9 a0_0 l0_1 l0_2 l0_3 l0_4 l0_5 = some r) ∧ Aside0 (kq ≤ kj1) ∧ Aside0 (wc.heap[gb101]? = some (.cells #[.string a0_0, (.slice A0_1 l0_1.length c0_1), (.slice A0_2 l0_2.length c0_2), (.slice A0_3 l0_3.length c0_3), (.slice A0_4 l0_4.length c0_4), (.slice A0_5 l0_5.length c0_5)] 26 (0, 0))) ∧ Aside0 (Below w.heap.size w wc))
        case first =>
          have H := HC10.out
          clear HC10
          by_cases c11 : (l0_3.length : Int) > 512
          · rw [if_pos c11] at H
            have c11b0 : decide (512 < (l0_3.length : Int)) = true := decide_eq_true c11
            have c11b1 : decide (512 < l0_3.length) = true := decide_eq_true (by omega)
            clear c11
            (first | rw [c11b0] | (simp only [i64_w, i32_w]; rw [c11b0]) | skip)
            have H' := Aside0.mk H
            clear H
            have hcz12_0 : wc.cell? ⟨gb101, 0, none⟩ = some (.string a0_0) := (blk_cell BK101.out 0).trans rfl
            have hcz12_1 : wc.cell? ⟨gb101, 1, none⟩ = some (.slice A0_1 l0_1.length c0_1) := (blk_cell BK101.out 1).trans rfl
            have hcz12_2 : wc.cell? ⟨gb101, 2, none⟩ = some (.slice A0_2 l0_2.length c0_2) := (blk_cell BK101.out 2).trans rfl
            have hcz12_3 : wc.cell? ⟨gb101, 3, none⟩ = some (.slice A0_3 l0_3.length c0_3) := (blk_cell BK101.out 3).trans rfl
            have hcz12_4 : wc.cell? ⟨gb101, 4, none⟩ = some (.slice A0_4 l0_4.length c0_4) := (blk_cell BK101.out 4).trans rfl
            have hcz12_5 : wc.cell? ⟨gb101, 5, none⟩ = some (.slice A0_5 l0_5.length c0_5) := (blk_cell BK101.out 5).trans rfl
            have hfz12_0 := blk_frozen BK101.out 0
            have hfz12_1 := blk_frozen BK101.out 1
            have hfz12_2 := blk_frozen BK101.out 2
            have hfz12_3 := blk_frozen BK101.out 3
            have hfz12_4 := blk_frozen BK101.out 4
            have hfz12_5 := blk_frozen BK101.out 5
            go_wp2
            go_meet
            case rel => exact ⟨_, (true), (by first | rfl | (simp; done) | (simp [*]; done)), H', ⟨by have := HJ1.out; first | omega | exact Nat.le_refl _⟩, ⟨by (with_reducible repeat (first | refine blk_drewN ?_ _ | refine blk_drew ?_ | refine blk_alloc ?_ _)); exact BK101.out⟩, ⟨by repeat (first | (with_reducible first | exact HB.out | apply below_alloc | apply pw_below_drewN | apply below_drew1 | refine below_set ?_ GE101.out) | exact HB.out)⟩⟩
          · rw [if_neg c11] at H
            have c11b0 : decide (512 < (l0_3.length : Int)) = false := decide_eq_false c11
            have c11b1 : decide (512 < l0_3.length) = false := decide_eq_false (by omega)
            clear c11
            (first | rw [c11b0] | (simp only [i64_w, i32_w]; rw [c11b0]) | skip)
            have H' := Aside0.mk H
            clear H
            have hcz13_0 : wc.cell? ⟨gb101, 0, none⟩ = some (.string a0_0) := (blk_cell BK101.out 0).trans rfl
            have hcz13_1 : wc.cell? ⟨gb101, 1, none⟩ = some (.slice A0_1 l0_1.length c0_1) := (blk_cell BK101.out 1).trans rfl
            have hcz13_2 : wc.cell? ⟨gb101, 2, none⟩ = some (.slice A0_2 l0_2.length c0_2) := (blk_cell BK101.out 2).trans rfl
            have hcz13_3 : wc.cell? ⟨gb101, 3, none⟩ = some (.slice A0_3 l0_3.length c0_3) := (blk_cell BK101.out 3).trans rfl
            have hcz13_4 : wc.cell? ⟨gb101, 4, none⟩ = some (.slice A0_4 l0_4.length c0_4) := (blk_cell BK101.out 4).trans rfl
            have hcz13_5 : wc.cell? ⟨gb101, 5, none⟩ = some (.slice A0_5 l0_5.length c0_5) := (blk_cell BK101.out 5).trans rfl
            have hfz13_0 := blk_frozen BK101.out 0
            have hfz13_1 := blk_frozen BK101.out 1
            have hfz13_2 := blk_frozen BK101.out 2
            have hfz13_3 := blk_frozen BK101.out 3
            have hfz13_4 := blk_frozen BK101.out 4
            have hfz13_5 := blk_frozen BK101.out 5
            go_wp2
            go_meet
            case rel => exact ⟨_, (decide ((l0_4.length : Int) > 128)), (by first | rfl | (simp; done) | (simp [*]; done)), H', ⟨by have := HJ1.out; first | omega | exact Nat.le_refl _⟩, ⟨by (with_reducible repeat (first | refine blk_drewN ?_ _ | refine blk_drew ?_ | refine blk_alloc ?_ _)); exact BK101.out⟩, ⟨by repeat (first | (with_reducible first | exact HB.out | apply below_alloc | apply pw_below_drewN | apply below_drew1 | refine below_set ?_ GE101.out) | exact HB.out)⟩⟩
        case rest =>
          clear HC10
          try clear c1
          try clear p2
          try clear c3
          try clear c4
          try clear c4b0
          try clear c4b1
          try clear c6
          try clear c6b0
          try clear c6b1
          try clear c9
          try clear c11
          try clear c11b0
          try clear c11b1
          try clear hcz12_0
          try clear hcz12_1
          try clear hcz12_2
          try clear hcz12_3
          try clear hcz12_4
          try clear hcz12_5
          try clear hcz13_0
          try clear hcz13_1
          try clear hcz13_2
          try clear hcz13_3
          try clear hcz13_4
          try clear hcz13_5
          try clear hcz5_0
          try clear hcz5_1
          try clear hcz5_2
          try clear hcz5_3
          try clear hcz5_4
          try clear hcz5_5
          try clear hcz7_0
          try clear hcz7_1
          try clear hcz7_2
          try clear hcz7_3
          try clear hcz7_4
          try clear hcz7_5
          try clear hcz8_0
          try clear hcz8_1
          try clear hcz8_2
          try clear hcz8_3
          try clear hcz8_4
          try clear hcz8_5
          try clear hfz12_0
          try clear hfz12_1
          try clear hfz12_2
          try clear hfz12_3
          try clear hfz12_4
          try clear hfz12_5
          try clear hfz13_0
          try clear hfz13_1
          try clear hfz13_2
          try clear hfz13_3
          try clear hfz13_4
          try clear hfz13_5
          try clear hfz5_0
          try clear hfz5_1
          try clear hfz5_2
          try clear hfz5_3
          try clear hfz5_4
          try clear hfz5_5
          try clear hfz7_0
          try clear hfz7_1
          try clear hfz7_2
          try clear hfz7_3
          try clear hfz7_4
          try clear hfz7_5
          try clear hfz8_0
          try clear hfz8_1
          try clear hfz8_2
          try clear hfz8_3
          try clear hfz8_4
          try clear hfz8_5
          try clear p2
          obtain ⟨kq, x21_9, rfl, HA, HJ9, BK101, HB⟩ := hcut
          cases kq with
          | zero => exact absurd HA.out (by simp [object_Check.j1])
          | succ kj9 =>
            have H := HA.out
            clear HA
            simp only [object_Check.j1] at H
            by_cases c14 : x21_9 = true
            · subst c14
              have H1 : (some 5) = some r := by rw [if_pos rfl] at H; exact H
              clear H
              have H := H1
              clear H1
              obtain rfl := Option.some.inj H
              go_wp2
              go_ret
              exact ⟨by first | rfl | (simp [errW_none, errW_some] <;> rfl) | (simp [*, errW_none, errW_some] <;> rfl), by repeat (first | (with_reducible first | exact HB.out | apply below_alloc | apply pw_below_drewN | apply below_drew1 | refine below_set ?_ GE101.out) | exact HB.out)⟩
            · replace c14 := Bool.eq_false_iff.mpr c14
              subst c14
              have H1 : ((object_Check_1.f a0_0).bind fun t102 => (if t102 = true then (object_Check.j2 kj9 true a0_0 l0_1 l0_2 l0_3 l0_4 l0_5) else ((ContainsFunc_long.f kj9 l0_1 ()).bind fun t103 => (if t103 = true then (object_Check.j2 kj9 true a0_0 l0_1 l0_2 l0_3 l0_4 l0_5) else ((ContainsFunc_long.f kj9 l0_2 ()).bind fun t104 => (object_Check.j2 kj9 t104 a0_0 l0_1 l0_2 l0_3 l0_4 l0_5)))))) = some r := by rw [if_neg (show ¬ (false = true) by decide)] at H; exact H
              clear H
              have H := H1
              clear H1
              have HC15 := Aside0.mk H
              clear H
              go_upto_region 6 with (fail)
              go_cut [32] (fun v32 wc => ∃ (kq : Nat) (x32_14 : Bool), v32 = .bool x32_14 ∧ Aside0 (object_Check.j2 kq x32_14 a0_0 l0_1 l0_2 l0_3 l0_4 l0_5 = some r) ∧ Aside0 (kq ≤ kj9) ∧ Aside0 (wc.heap[gb101]? = some (.cells #[.string a0_0, (.slice A0_1 l0_1.length c0_1), (.slice A0_2 l0_2.length c0_2), (.slice A0_3 l0_3.length c0_3), (.slice A0_4 l0_4.length c0_4), (.slice A0_5 l0_5.length c0_5)] 26 (0, 0))) ∧ Aside0 (Below w.heap.size w wc))
              case first =>
                have H := HC15.out
                clear HC15
                replace H := Option.bind_eq_some_iff.mp H
                obtain ⟨t102, A160, H⟩ := H
                replace H : (if t102 = true then (object_Check.j2 kj9 true a0_0 l0_1 l0_2 l0_3 l0_4 l0_5) else ((ContainsFunc_long.f kj9 l0_1 ()).bind fun t103 => (if t103 = true then (object_Check.j2 kj9 true a0_0 l0_1 l0_2 l0_3 l0_4 l0_5) else ((ContainsFunc_long.f kj9 l0_2 ()).bind fun t104 => (object_Check.j2 kj9 t104 a0_0 l0_1 l0_2 l0_3 l0_4 l0_5))))) = some r := H
                have A16 := Aside0.mk A160
                clear A160
                by_cases c17 : t102 = true
                · subst c17
                  have H1 : (object_Check.j2 kj9 true a0_0 l0_1 l0_2 l0_3 l0_4 l0_5) = some r := by rw [if_pos rfl] at H; exact H
                  clear H
                  have H := H1
                  clear H1
                  have H' := Aside0.mk H
                  clear H
                  have hcz18_0 : wc.cell? ⟨gb101, 0, none⟩ = some (.string a0_0) := (blk_cell BK101.out 0).trans rfl
                  have hcz18_1 : wc.cell? ⟨gb101, 1, none⟩ = some (.slice A0_1 l0_1.length c0_1) := (blk_cell BK101.out 1).trans rfl
                  have hcz18_2 : wc.cell? ⟨gb101, 2, none⟩ = some (.slice A0_2 l0_2.length c0_2) := (blk_cell BK101.out 2).trans rfl
                  have hcz18_3 : wc.cell? ⟨gb101, 3, none⟩ = some (.slice A0_3 l0_3.length c0_3) := (blk_cell BK101.out 3).trans rfl
                  have hcz18_4 : wc.cell? ⟨gb101, 4, none⟩ = some (.slice A0_4 l0_4.length c0_4) := (blk_cell BK101.out 4).trans rfl
                  have hcz18_5 : wc.cell? ⟨gb101, 5, none⟩ = some (.slice A0_5 l0_5.length c0_5) := (blk_cell BK101.out 5).trans rfl
                  have hfz18_0 := blk_frozen BK101.out 0
                  have hfz18_1 := blk_frozen BK101.out 1
                  have hfz18_2 := blk_frozen BK101.out 2
                  have hfz18_3 := blk_frozen BK101.out 3
                  have hfz18_4 := blk_frozen BK101.out 4
                  have hfz18_5 := blk_frozen BK101.out 5
                  go_wp2_with (first | (go_at_call 72; (with_reducible refine (object_Check_1.calls a0_0 true _ A16.out).mono ?_); rintro e w' ⟨rfl, ⟨nd, rfl⟩⟩))
                  go_meet
                  case rel => exact ⟨_, (true), (by first | rfl | (simp; done) | (simp [*]; done)), H', ⟨by have := HJ1.out; have := HJ9.out; first | omega | exact Nat.le_refl _⟩, ⟨by (with_reducible repeat (first | refine blk_drewN ?_ _ | refine blk_drew ?_ | refine blk_alloc ?_ _)); exact BK101.out⟩, ⟨by repeat (first | (with_reducible first | exact HB.out | apply below_alloc | apply pw_below_drewN | apply below_drew1 | refine below_set ?_ GE101.out) | exact HB.out)⟩⟩
                · replace c17 := Bool.eq_false_iff.mpr c17
                  subst c17
                  have H1 : ((ContainsFunc_long.f kj9 l0_1 ()).bind fun t103 => (if t103 = true then (object_Check.j2 kj9 true a0_0 l0_1 l0_2 l0_3 l0_4 l0_5) else ((ContainsFunc_long.f kj9 l0_2 ()).bind fun t104 => (object_Check.j2 kj9 t104 a0_0 l0_1 l0_2 l0_3 l0_4 l0_5)))) = some r := by rw [if_neg (show ¬ (false = true) by decide)] at H; exact H
                  clear H
                  have H := H1
                  clear H1
                  replace H := Option.bind_eq_some_iff.mp H
                  obtain ⟨t103, A190, H⟩ := H
                  replace H : (if t103 = true then (object_Check.j2 kj9 true a0_0 l0_1 l0_2 l0_3 l0_4 l0_5) else ((ContainsFunc_long.f kj9 l0_2 ()).bind fun t104 => (object_Check.j2 kj9 t104 a0_0 l0_1 l0_2 l0_3 l0_4 l0_5))) = some r := H
                  have A19 := Aside0.mk A190
                  clear A190
                  by_cases c20 : t103 = true
                  · subst c20
                    have H1 : (object_Check.j2 kj9 true a0_0 l0_1 l0_2 l0_3 l0_4 l0_5) = some r := by rw [if_pos rfl] at H; exact H
                    clear H
                    have H := H1
                    clear H1
                    have H' := Aside0.mk H
                    clear H
                    have hcz21_0 : wc.cell? ⟨gb101, 0, none⟩ = some (.string a0_0) := (blk_cell BK101.out 0).trans rfl
                    have hcz21_1 : wc.cell? ⟨gb101, 1, none⟩ = some (.slice A0_1 l0_1.length c0_1) := (blk_cell BK101.out 1).trans rfl
                    have hcz21_2 : wc.cell? ⟨gb101, 2, none⟩ = some (.slice A0_2 l0_2.length c0_2) := (blk_cell BK101.out 2).trans rfl
                    have hcz21_3 : wc.cell? ⟨gb101, 3, none⟩ = some (.slice A0_3 l0_3.length c0_3) := (blk_cell BK101.out 3).trans rfl
                    have hcz21_4 : wc.cell? ⟨gb101, 4, none⟩ = some (.slice A0_4 l0_4.length c0_4) := (blk_cell BK101.out 4).trans rfl
                    have hcz21_5 : wc.cell? ⟨gb101, 5, none⟩ = some (.slice A0_5 l0_5.length c0_5) := (blk_cell BK101.out 5).trans rfl
                    have hfz21_0 := blk_frozen BK101.out 0
                    have hfz21_1 := blk_frozen BK101.out 1
                    have hfz21_2 := blk_frozen BK101.out 2
                    have hfz21_3 := blk_frozen BK101.out 3
                    have hfz21_4 := blk_frozen BK101.out 4
                    have hfz21_5 := blk_frozen BK101.out 5
                    go_wp2_with (first | (go_at_call 72; (with_reducible refine (object_Check_1.calls a0_0 false _ A16.out).mono ?_); rintro e w' ⟨rfl, ⟨nd, rfl⟩⟩) | (go_at_call 56; (with_reducible refine (ContainsFunc_long.calls kj9 _ _ l0_1 () true _ ?side1 ?side2 A19.out).mono ?_); (case side1 => repeat (first | exact (Kd.C_below HR0_1.out (by repeat (first | (with_reducible first | exact HB.out | apply below_alloc | apply pw_below_drewN | apply below_drew1 | refine below_set ?_ GE101.out) | exact HB.out))) | (with_reducible refine Kd.C_alloc ?_ _) | (with_reducible refine Kd.C_drewN ?_ _) | (with_reducible refine Kd.C_drew ?_))); (case side2 => exact HC0_1.out); rintro e w' ⟨rfl, ⟨nd, rfl⟩⟩))
                    go_meet
                    case rel => exact ⟨_, (true), (by first | rfl | (simp; done) | (simp [*]; done)), H', ⟨by have := HJ1.out; have := HJ9.out; first | omega | exact Nat.le_refl _⟩, ⟨by (with_reducible repeat (first | refine blk_drewN ?_ _ | refine blk_drew ?_ | refine blk_alloc ?_ _)); exact BK101.out⟩, ⟨by repeat (first | (with_reducible first | exact HB.out | apply below_alloc | apply pw_below_drewN | apply below_drew1 | refine below_set ?_ GE101.out) | exact HB.out)⟩⟩
                  · replace c20 := Bool.eq_false_iff.mpr c20
                    subst c20
                    have H1 : ((ContainsFunc_long.f kj9 l0_2 ()).bind fun t104 => (object_Check.j2 kj9 t104 a0_0 l0_1 l0_2 l0_3 l0_4 l0_5)) = some r := by rw [if_neg (show ¬ (false = true) by decide)] at H; exact H
                    clear H
                    have H := H1
                    clear H1
                    replace H := Option.bind_eq_some_iff.mp H
                    obtain ⟨t104, A220, H⟩ := H
                    replace H : (object_Check.j2 kj9 t104 a0_0 l0_1 l0_2 l0_3 l0_4 l0_5) = some r := H
                    have A22 := Aside0.mk A220
                    clear A220
                    have H' := Aside0.mk H
                    clear H
                    have hcz23_0 : wc.cell? ⟨gb101, 0, none⟩ = some (.string a0_0) := (blk_cell BK101.out 0).trans rfl
                    have hcz23_1 : wc.cell? ⟨gb101, 1, none⟩ = some (.slice A0_1 l0_1.length c0_1) := (blk_cell BK101.out 1).trans rfl
                    have hcz23_2 : wc.cell? ⟨gb101, 2, none⟩ = some (.slice A0_2 l0_2.length c0_2) := (blk_cell BK101.out 2).trans rfl
                    have hcz23_3 : wc.cell? ⟨gb101, 3, none⟩ = some (.slice A0_3 l0_3.length c0_3) := (blk_cell BK101.out 3).trans rfl
                    have hcz23_4 : wc.cell? ⟨gb101, 4, none⟩ = some (.slice A0_4 l0_4.length c0_4) := (blk_cell BK101.out 4).trans rfl
                    have hcz23_5 : wc.cell? ⟨gb101, 5, none⟩ = some (.slice A0_5 l0_5.length c0_5) := (blk_cell BK101.out 5).trans rfl
                    have hfz23_0 := blk_frozen BK101.out 0
                    have hfz23_1 := blk_frozen BK101.out 1
                    have hfz23_2 := blk_frozen BK101.out 2
                    have hfz23_3 := blk_frozen BK101.out 3
                    have hfz23_4 := blk_frozen BK101.out 4
                    have hfz23_5 := blk_frozen BK101.out 5
                    go_wp2_with (first | (go_at_call 72; (with_reducible refine (object_Check_1.calls a0_0 false _ A16.out).mono ?_); rintro e w' ⟨rfl, ⟨nd, rfl⟩⟩) | (go_at_call 56; (with_reducible refine (ContainsFunc_long.calls kj9 _ _ l0_1 () false _ ?side1 ?side2 A19.out).mono ?_); (case side1 => repeat (first | exact (Kd.C_below HR0_1.out (by repeat (first | (with_reducible first | exact HB.out | apply below_alloc | apply pw_below_drewN | apply below_drew1 | refine below_set ?_ GE101.out) | exact HB.out))) | (with_reducible refine Kd.C_alloc ?_ _) | (with_reducible refine Kd.C_drewN ?_ _) | (with_reducible refine Kd.C_drew ?_))); (case side2 => exact HC0_1.out); rintro e w' ⟨rfl, ⟨nd, rfl⟩⟩) | (go_at_call 56; (with_reducible refine (ContainsFunc_long.calls kj9 _ _ l0_2 () t104 _ ?side1 ?side2 A22.out).mono ?_); (case side1 => repeat (first | exact (Kd.C_below HR0_2.out (by repeat (first | (with_reducible first | exact HB.out | apply below_alloc | apply pw_below_drewN | apply below_drew1 | refine below_set ?_ GE101.out) | exact HB.out))) | (with_reducible refine Kd.C_alloc ?_ _) | (with_reducible refine Kd.C_drewN ?_ _) | (with_reducible refine Kd.C_drew ?_))); (case side2 => exact HC0_2.out); rintro e w' ⟨rfl, ⟨nd, rfl⟩⟩))
                    go_meet
                    case rel => exact ⟨_, (t104), (by first | rfl | (simp; done) | (simp [*]; done)), H', ⟨by have := HJ1.out; have := HJ9.out; first | omega | exact Nat.le_refl _⟩, ⟨by (with_reducible repeat (first | refine blk_drewN ?_ _ | refine blk_drew ?_ | refine blk_alloc ?_ _)); exact BK101.out⟩, ⟨by repeat (first | (with_reducible first | exact HB.out | apply below_alloc | apply pw_below_drewN | apply below_drew1 | refine below_set ?_ GE101.out) | exact HB.out)⟩⟩
              case rest =>
                clear HC15
                try clear c1
                try clear c2
                try clear p2
                try clear c3
                try clear c4
                try clear c4b0
                try clear c4b1
                try clear c6
                try clear c6b0
                try clear c6b1
                try clear c9
                try clear c11
                try clear c11b0
                try clear c11b1
                try clear c14
                try clear c17
                try clear c20
                try clear hcz12_0
                try clear hcz12_1
                try clear hcz12_2
                try clear hcz12_3
                try clear hcz12_4
                try clear hcz12_5
                try clear hcz13_0
                try clear hcz13_1
                try clear hcz13_2
                try clear hcz13_3
                try clear hcz13_4
                try clear hcz13_5
                try clear hcz18_0
                try clear hcz18_1
                try clear hcz18_2
                try clear hcz18_3
                try clear hcz18_4
                try clear hcz18_5
                try clear hcz21_0
                try clear hcz21_1
                try clear hcz21_2
                try clear hcz21_3
                try clear hcz21_4
                try clear hcz21_5
                try clear hcz23_0
                try clear hcz23_1
                try clear hcz23_2
                try clear hcz23_3
                try clear hcz23_4
                try clear hcz23_5
                try clear hcz5_0
                try clear hcz5_1
                try clear hcz5_2
                try clear hcz5_3
                try clear hcz5_4
                try clear hcz5_5
                try clear hcz7_0
                try clear hcz7_1
                try clear hcz7_2
                try clear hcz7_3
                try clear hcz7_4
                try clear hcz7_5
                try clear hcz8_0
                try clear hcz8_1
                try clear hcz8_2
                try clear hcz8_3
                try clear hcz8_4
                try clear hcz8_5
                try clear hfz12_0
                try clear hfz12_1
                try clear hfz12_2
                try clear hfz12_3
                try clear hfz12_4
                try clear hfz12_5
                try clear hfz13_0
                try clear hfz13_1
                try clear hfz13_2
                try clear hfz13_3
                try clear hfz13_4
                try clear hfz13_5
                try clear hfz18_0
                try clear hfz18_1
                try clear hfz18_2
                try clear hfz18_3
                try clear hfz18_4
                try clear hfz18_5
                try clear hfz21_0
                try clear hfz21_1
                try clear hfz21_2
                try clear hfz21_3
                try clear hfz21_4
                try clear hfz21_5
                try clear hfz23_0
                try clear hfz23_1
                try clear hfz23_2
                try clear hfz23_3
                try clear hfz23_4
                try clear hfz23_5
                try clear hfz5_0
                try clear hfz5_1
                try clear hfz5_2
                try clear hfz5_3
                try clear hfz5_4
                try clear hfz5_5
                try clear hfz7_0
                try clear hfz7_1
                try clear hfz7_2
                try clear hfz7_3
                try clear hfz7_4
                try clear hfz7_5
                try clear hfz8_0
                try clear hfz8_1
                try clear hfz8_2
                try clear hfz8_3
                try clear hfz8_4
                try clear hfz8_5
                try clear p2
                obtain ⟨kq, x32_14, rfl, HA, HJ14, BK101, HB⟩ := hcut
                cases kq with
                | zero => exact absurd HA.out (by simp [object_Check.j2])
                | succ kj14 =>
                  have H := HA.out
                  clear HA
                  simp only [object_Check.j2] at H
                  by_cases c24 : x32_14 = true
                  · subst c24
                    have H1 : (some 5) = some r := by rw [if_pos rfl] at H; exact H
                    clear H
                    have H := H1
                    clear H1
                    obtain rfl := Option.some.inj H
                    go_wp2
                    go_ret
                    exact ⟨by first | rfl | (simp [errW_none, errW_some] <;> rfl) | (simp [*, errW_none, errW_some] <;> rfl), by repeat (first | (with_reducible first | exact HB.out | apply below_alloc | apply pw_below_drewN | apply below_drew1 | refine below_set ?_ GE101.out) | exact HB.out)⟩
                  · replace c24 := Bool.eq_false_iff.mpr c24
                    subst c24
                    have H1 : ((ContainsFunc_kind.f kj14 l0_5 ()).bind fun t105 => (if t105 = true then (some 2) else (some 0))) = some r := by rw [if_neg (show ¬ (false = true) by decide)] at H; exact H
                    clear H
                    have H := H1
                    clear H1
                    replace H := Option.bind_eq_some_iff.mp H
                    obtain ⟨t105, A250, H⟩ := H
                    replace H : (if t105 = true then (some 2) else (some 0)) = some r := H
                    have A25 := Aside0.mk A250
                    clear A250
                    by_cases c26 : t105 = true
                    · subst c26
                      have H1 : (some 2) = some r := by rw [if_pos rfl] at H; exact H
                      clear H
                      have H := H1
                      clear H1
                      obtain rfl := Option.some.inj H
                      have hcz27_0 : wc.cell? ⟨gb101, 0, none⟩ = some (.string a0_0) := (blk_cell BK101.out 0).trans rfl
                      have hcz27_1 : wc.cell? ⟨gb101, 1, none⟩ = some (.slice A0_1 l0_1.length c0_1) := (blk_cell BK101.out 1).trans rfl
                      have hcz27_2 : wc.cell? ⟨gb101, 2, none⟩ = some (.slice A0_2 l0_2.length c0_2) := (blk_cell BK101.out 2).trans rfl
                      have hcz27_3 : wc.cell? ⟨gb101, 3, none⟩ = some (.slice A0_3 l0_3.length c0_3) := (blk_cell BK101.out 3).trans rfl
                      have hcz27_4 : wc.cell? ⟨gb101, 4, none⟩ = some (.slice A0_4 l0_4.length c0_4) := (blk_cell BK101.out 4).trans rfl
                      have hcz27_5 : wc.cell? ⟨gb101, 5, none⟩ = some (.slice A0_5 l0_5.length c0_5) := (blk_cell BK101.out 5).trans rfl
                      have hfz27_0 := blk_frozen BK101.out 0
                      have hfz27_1 := blk_frozen BK101.out 1
                      have hfz27_2 := blk_frozen BK101.out 2
                      have hfz27_3 := blk_frozen BK101.out 3
                      have hfz27_4 := blk_frozen BK101.out 4
                      have hfz27_5 := blk_frozen BK101.out 5
                      go_wp2_with (first | ((with_reducible refine gate_callee (f := 73) rfl ?_); refine goesL_ (some 52) rfl rfl Tryd.func73 (by kernel_rfl) rfl #[.slice A0_5 l0_5.length c0_5, .func (.func 74) #[] #[]] rfl (by (try simp only [List.map_toArray, List.map_cons, List.map_nil]); first | done | rfl | (simp only [List.length_drop, List.length_take]; rfl)) ?_; (with_reducible refine (ContainsFunc_kind.calls kj14 _ _ l0_5 () true _ ?side1 ?side2 A25.out).mono ?_); (case side1 => repeat (first | exact (Kd.C_below HR0_5.out HB.out) | (with_reducible refine Kd.C_alloc ?_ _) | (with_reducible refine Kd.C_drewN ?_ _) | (with_reducible refine Kd.C_drew ?_))); (case side2 => exact HC0_5.out); rintro e w28 ⟨rfl, hb⟩; refine ⟨_, rfl, ?_⟩; have n0_ := Aside0.mk (blk_below (g := gb101) (o := .cells #[.string a0_0, .slice A0_1 l0_1.length c0_1, .slice A0_2 l0_2.length c0_2, .slice A0_3 l0_3.length c0_3, .slice A0_4 l0_4.length c0_4, .slice A0_5 l0_5.length c0_5] 26 (0, 0)) (by (with_reducible repeat (first | refine blk_drewN ?_ _ | refine blk_drew ?_ | refine blk_alloc ?_ _)); exact BK101.out) hb); have n1_ := Aside0.mk (below_step (by repeat (first | (with_reducible first | exact HB.out | apply below_alloc | apply pw_below_drewN | apply below_drew1 | refine below_set ?_ GE101.out) | exact HB.out)) hb); clear BK101; clear HB; have BK101 := n0_; have HB := n1_; clear n0_ n1_; (try clear hb); (try clear hb2); (try clear hk); (try clear hi)))
                      go_ret
                      exact ⟨by first | rfl | (simp [errW_none, errW_some] <;> rfl) | (simp [*, errW_none, errW_some] <;> rfl), by repeat (first | (with_reducible first | exact HB.out | apply below_alloc | apply pw_below_drewN | apply below_drew1 | refine below_set ?_ GE101.out) | exact HB.out)⟩
                    · replace c26 := Bool.eq_false_iff.mpr c26
                      subst c26
                      have H1 : (some 0) = some r := by rw [if_neg (show ¬ (false = true) by decide)] at H; exact H
                      clear H
                      have H := H1
                      clear H1
                      obtain rfl := Option.some.inj H
                      have hcz29_0 : wc.cell? ⟨gb101, 0, none⟩ = some (.string a0_0) := (blk_cell BK101.out 0).trans rfl
                      have hcz29_1 : wc.cell? ⟨gb101, 1, none⟩ = some (.slice A0_1 l0_1.length c0_1) := (blk_cell BK101.out 1).trans rfl
                      have hcz29_2 : wc.cell? ⟨gb101, 2, none⟩ = some (.slice A0_2 l0_2.length c0_2) := (blk_cell BK101.out 2).trans rfl
                      have hcz29_3 : wc.cell? ⟨gb101, 3, none⟩ = some (.slice A0_3 l0_3.length c0_3) := (blk_cell BK101.out 3).trans rfl
                      have hcz29_4 : wc.cell? ⟨gb101, 4, none⟩ = some (.slice A0_4 l0_4.length c0_4) := (blk_cell BK101.out 4).trans rfl
                      have hcz29_5 : wc.cell? ⟨gb101, 5, none⟩ = some (.slice A0_5 l0_5.length c0_5) := (blk_cell BK101.out 5).trans rfl
                      have hfz29_0 := blk_frozen BK101.out 0
                      have hfz29_1 := blk_frozen BK101.out 1
                      have hfz29_2 := blk_frozen BK101.out 2
                      have hfz29_3 := blk_frozen BK101.out 3
                      have hfz29_4 := blk_frozen BK101.out 4
                      have hfz29_5 := blk_frozen BK101.out 5
                      go_wp2_with (first | ((with_reducible refine gate_callee (f := 73) rfl ?_); refine goesL_ (some 52) rfl rfl Tryd.func73 (by kernel_rfl) rfl #[.slice A0_5 l0_5.length c0_5, .func (.func 74) #[] #[]] rfl (by (try simp only [List.map_toArray, List.map_cons, List.map_nil]); first | done | rfl | (simp only [List.length_drop, List.length_take]; rfl)) ?_; (with_reducible refine (ContainsFunc_kind.calls kj14 _ _ l0_5 () false _ ?side1 ?side2 A25.out).mono ?_); (case side1 => repeat (first | exact (Kd.C_below HR0_5.out HB.out) | (with_reducible refine Kd.C_alloc ?_ _) | (with_reducible refine Kd.C_drewN ?_ _) | (with_reducible refine Kd.C_drew ?_))); (case side2 => exact HC0_5.out); rintro e w30 ⟨rfl, hb⟩; refine ⟨_, rfl, ?_⟩; have n0_ := Aside0.mk (blk_below (g := gb101) (o := .cells #[.string a0_0, .slice A0_1 l0_1.length c0_1, .slice A0_2 l0_2.length c0_2, .slice A0_3 l0_3.length c0_3, .slice A0_4 l0_4.length c0_4, .slice A0_5 l0_5.length c0_5] 26 (0, 0)) (by (with_reducible repeat (first | refine blk_drewN ?_ _ | refine blk_drew ?_ | refine blk_alloc ?_ _)); exact BK101.out) hb); have n1_ := Aside0.mk (below_step (by repeat (first | (with_reducible first | exact HB.out | apply below_alloc | apply pw_below_drewN | apply below_drew1 | refine below_set ?_ GE101.out) | exact HB.out)) hb); clear BK101; clear HB; have BK101 := n0_; have HB := n1_; clear n0_ n1_; (try clear hb); (try clear hb2); (try clear hk); (try clear hi)))
                      go_ret
                      exact ⟨by first | rfl | (simp [errW_none, errW_some] <;> rfl) | (simp [*, errW_none, errW_some] <;> rfl), by repeat (first | (with_reducible first | exact HB.out | apply below_alloc | apply pw_below_drewN | apply below_drew1 | refine below_set ?_ GE101.out) | exact HB.out)⟩

end Go.Proofs.YtiphindialkmnaaDoor.X
end
section
namespace Go.Proofs.YtiphindialkmnaaDoor.X
open Go.RowKit Go.Proofs.YtiphindialkmnaaDoorW.PrintWords Go.Proofs.YtiphindialkmnaaDoorW.PrintLast Go.Proofs.YtiphindialkmnaaDoorW.PrintMore
attribute [local go_sem] max2_int min2_int max_two min_two max_three min_three max_four min_four
set_option linter.unusedVariables false
set_option linter.unusedSimpArgs false

/-! ### valid_words: function 39 -/
mutual
def valid_words.j0 : Nat → Bool → ByteArray → List ByteArray → List ByteArray → List Int → List Int → List (S43) → Option (Int × Int)
  | 0, _, _, _, _, _, _, _ => none
  | k + 1, x20, x102000, x102001, x102002, x102003, x102004, x102005 => if x20 = true then (some (4, 0)) else (valid_words.l0 k x102003 (x102003.length : Int) 0)
def valid_words.l0 : Nat → List Int → Int → Int → Option (Int × Int)
  | 0, _, _, _ => none
  | k + 1, x22, x23, x24 => if x24 < x23 then (if 0 ≤ x24 then (if x24 < (x22.length : Int) then ((isa_Decode.f k (rd x22 x24)).bind fun bt103 => (if bt103.2.2.2.2.2 = 0 then (if bt103.1 = 21 then (some (5, x24)) else (valid_words.l0 k x22 x23 (wrap64 (x24 + 1)))) else (some (5, x24)))) else (none)) else (none)) else (some (0, 0))
end
def valid_words.f (k : Nat) (a0_0 : ByteArray) (l0_1 : List ByteArray) (l0_2 : List ByteArray) (l0_3 : List Int) (l0_4 : List Int) (l0_5 : List (S43)) : Option (Int × Int) := if (l0_3.length : Int) = 0 then (valid_words.j0 k true a0_0 l0_1 l0_2 l0_3 l0_4 l0_5) else (valid_words.j0 k (decide ((l0_3.length : Int) < (l0_1.length : Int))) a0_0 l0_1 l0_2 l0_3 l0_4 l0_5)
theorem valid_words.mono_l : ∀ k, (∀ y0 y1 y2 y3 y4 y5 y6, LeO (valid_words.j0 k y0 y1 y2 y3 y4 y5 y6) (valid_words.j0 (k + 1) y0 y1 y2 y3 y4 y5 y6)) ∧ (∀ y0 y1 y2, LeO (valid_words.l0 k y0 y1 y2) (valid_words.l0 (k + 1) y0 y1 y2))
  | 0 => ⟨fun _ _ _ _ _ _ _ r h => by simp [valid_words.j0] at h, fun _ _ _ r h => by simp [valid_words.l0] at h⟩
  | k + 1 => by
    obtain ⟨ih0, ih1⟩ := valid_words.mono_l k
    refine ⟨?_, ?_⟩
    · intro y0 y1 y2 y3 y4 y5 y6
      unfold valid_words.j0
      repeat' first
      | (with_reducible exact ih0 _ _ _ _ _ _ _)
      | (with_reducible exact ih1 _ _ _)
      | (with_reducible exact isa_Decode.mono _ _)
      | (with_reducible exact LeO.refl _)
      | (with_reducible exact LeO.none _)
      | (with_reducible refine LeO.ite ?_ ?_)
      | (with_reducible refine LeO.bind ?_ (fun _ => ?_))
      | exact ih0 _ _ _ _ _ _ _
      | exact ih1 _ _ _
      | exact isa_Decode.mono _ _
      | exact LeO.none _
      | refine LeO.ite ?_ ?_
      | refine LeO.bind ?_ (fun _ => ?_)
    · intro y0 y1 y2
      unfold valid_words.l0
      repeat' first
      | (with_reducible exact ih0 _ _ _ _ _ _ _)
      | (with_reducible exact ih1 _ _ _)
      | (with_reducible exact isa_Decode.mono _ _)
      | (with_reducible exact LeO.refl _)
      | (with_reducible exact LeO.none _)
      | (with_reducible refine LeO.ite ?_ ?_)
      | (with_reducible refine LeO.bind ?_ (fun _ => ?_))
      | exact ih0 _ _ _ _ _ _ _
      | exact ih1 _ _ _
      | exact isa_Decode.mono _ _
      | exact LeO.none _
      | refine LeO.ite ?_ ?_
      | refine LeO.bind ?_ (fun _ => ?_)
theorem valid_words.mono : ∀ a0 a1 a2 a3 a4 a5 k, LeO (valid_words.f k a0 a1 a2 a3 a4 a5) (valid_words.f (k + 1) a0 a1 a2 a3 a4 a5) := by
  intro a0 a1 a2 a3 a4 a5 k
  obtain ⟨ih0, ih1⟩ := valid_words.mono_l k
  unfold valid_words.f
  repeat' first
      | (with_reducible exact ih0 _ _ _ _ _ _ _)
      | (with_reducible exact ih1 _ _ _)
      | (with_reducible exact isa_Decode.mono _ _)
      | (with_reducible exact LeO.refl _)
      | (with_reducible exact LeO.none _)
      | (with_reducible refine LeO.ite ?_ ?_)
      | (with_reducible refine LeO.bind ?_ (fun _ => ?_))
      | exact ih0 _ _ _ _ _ _ _
      | exact ih1 _ _ _
      | exact isa_Decode.mono _ _
      | exact LeO.none _
      | refine LeO.ite ?_ ?_
      | refine LeO.bind ?_ (fun _ => ?_)
set_option maxHeartbeats 8000000 in
set_option maxRecDepth 100000 in
theorem valid_words.calls (k : Nat) (a0_0 : ByteArray) (A0_1 : Option Addr) (c0_1 : Nat) (l0_1 : List ByteArray) (A0_2 : Option Addr) (c0_2 : Nat) (l0_2 : List ByteArray) (A0_3 : Option Addr) (c0_3 : Nat) (l0_3 : List Int) (A0_4 : Option Addr) (c0_4 : Nat) (l0_4 : List Int) (A0_5 : Option Addr) (c0_5 : Nat) (l0_5 : List (S43)) (r1 : Int) (r2 : Int) (w : World) (hr0_1 : Kd.C Kd.string w A0_1 l0_1.length l0_1) (hc0_1 : l0_1.length ≤ c0_1) (hr0_2 : Kd.C Kd.string w A0_2 l0_2.length l0_2) (hc0_2 : l0_2.length ≤ c0_2) (hr0_3 : Kd.C (Kd.int .u32) w A0_3 l0_3.length l0_3) (hc0_3 : l0_3.length ≤ c0_3) (hr0_4 : Kd.C (Kd.int .u32) w A0_4 l0_4.length l0_4) (hc0_4 : l0_4.length ≤ c0_4) (hr0_5 : Kd.C k43 w A0_5 l0_5.length l0_5) (hc0_5 : l0_5.length ≤ c0_5) (h : valid_words.f k a0_0 l0_1 l0_2 l0_3 l0_4 l0_5 = some (r1, r2)) :
    Calls Tryd.prog 39 #[.agg #[.string a0_0, .slice A0_1 l0_1.length c0_1, .slice A0_2 l0_2.length c0_2, .slice A0_3 l0_3.length c0_3, .slice A0_4 l0_4.length c0_4, .slice A0_5 l0_5.length c0_5]] w fun e w' => e = .returned (.tuple #[.int .u8 r1, .int .i64 r2]) ∧ Below w.heap.size w w' := by
  have hu26 := Tryd.underlying26
  have hu47 := Tryd.underlying47
  have HR0_1 := Aside0.mk hr0_1
  have HC0_1 := Aside0.mk hc0_1
  clear hr0_1 hc0_1
  have HR0_2 := Aside0.mk hr0_2
  have HC0_2 := Aside0.mk hc0_2
  clear hr0_2 hc0_2
  have HR0_3 := Aside0.mk hr0_3
  have HC0_3 := Aside0.mk hc0_3
  clear hr0_3 hc0_3
  have HR0_4 := Aside0.mk hr0_4
  have HC0_4 := Aside0.mk hc0_4
  clear hr0_4 hc0_4
  have HR0_5 := Aside0.mk hr0_5
  have HC0_5 := Aside0.mk hc0_5
  clear hr0_5 hc0_5
  have HB := Aside0.mk (Below.refl w.heap.size w)
  have H : (if (l0_3.length : Int) = 0 then (valid_words.j0 k true a0_0 l0_1 l0_2 l0_3 l0_4 l0_5) else (valid_words.j0 k (decide ((l0_3.length : Int) < (l0_1.length : Int))) a0_0 l0_1 l0_2 l0_3 l0_4 l0_5)) = some (r1, r2) := h
  clear h
  have HC2 := Aside0.mk H
  clear H
  go_enter Tryd.func39, Tryd.ntmps39
  go_upto_region 1 with (first | ((with_reducible refine gate_dst (N := 1) rfl ?_); (try (refine gate_guard (by rfl) ?_; dsimp only)); refine box_event ?hg (N := 1) ?hd (cs := #[.string a0_0, .slice A0_1 l0_1.length c0_1, .slice A0_2 l0_2.length c0_2, .slice A0_3 l0_3.length c0_3, .slice A0_4 l0_4.length c0_4, .slice A0_5 l0_5.length c0_5]) (t := 26) ?hr ?_; (case hd => rfl); (case hg => rfl); (case hr => first | (go_simp; done) | (go_simp; rfl)); intro gb101 hg w3 hbox hb; have n0_ := Aside0.mk (below_step (by repeat (first | (with_reducible first | exact HB.out | apply below_alloc | apply pw_below_drewN | apply below_drew1) | exact HB.out)) hb); have n1_ := Aside0.mk (hbox); have n2_ := Aside0.mk ((by rw [hg]; exact (below_size (by repeat (first | (with_reducible first | exact HB.out | apply below_alloc | apply pw_below_drewN | apply below_drew1) | exact HB.out))) : w.heap.size ≤ gb101)); have n3_ := Aside0.mk ((by rw [hg]; exact (below_size (by repeat (first | (with_reducible first | exact HB.out | apply below_alloc | apply pw_below_drewN | apply below_drew1) | exact HB.out))) : w.heap.size ≤ gb101)); clear HB; have HB := n0_; have BK101 := n1_; have GW101 := n2_; have GE101 := n3_; clear n0_ n1_ n2_ n3_; clear hb hbox hg))
  (try simp only [Act.put, List.setIfInBounds_toArray, List.set_cons_zero, List.set_cons_succ])
  go_cut [20] (fun v20 wc => ∃ (kq : Nat) (x20_1 : Bool), v20 = .bool x20_1 ∧ Aside0 (valid_words.j0 kq x20_1 a0_0 l0_1 l0_2 l0_3 l0_4 l0_5 = some (r1, r2)) ∧ Aside0 (kq ≤ k) ∧ Aside0 (wc.heap[gb101]? = some (.cells #[.string a0_0, (.slice A0_1 l0_1.length c0_1), (.slice A0_2 l0_2.length c0_2), (.slice A0_3 l0_3.length c0_3), (.slice A0_4 l0_4.length c0_4), (.slice A0_5 l0_5.length c0_5)] 26 (0, 0))) ∧ Aside0 (Below w.heap.size w wc))
  case first =>
    have H := HC2.out
    clear HC2
    by_cases c4 : (l0_3.length : Int) = 0
    · rw [if_pos c4] at H
      have c4b0 : ((l0_3.length : Int) == 0) = true := beq_iff_eq.mpr c4
      have c4b1 : ((l0_3.length : Int) != 0) = false := bne_eq_false_iff_eq.mpr c4
      clear c4
      (first | rw [c4b0] | (simp only [i64_w, i32_w]; rw [c4b0]) | skip)
      have H' := Aside0.mk H
      clear H
      have hcz5_0 : w3.cell? ⟨gb101, 0, none⟩ = some (.string a0_0) := (blk_cell BK101.out 0).trans rfl
      have hcz5_1 : w3.cell? ⟨gb101, 1, none⟩ = some (.slice A0_1 l0_1.length c0_1) := (blk_cell BK101.out 1).trans rfl
      have hcz5_2 : w3.cell? ⟨gb101, 2, none⟩ = some (.slice A0_2 l0_2.length c0_2) := (blk_cell BK101.out 2).trans rfl
      have hcz5_3 : w3.cell? ⟨gb101, 3, none⟩ = some (.slice A0_3 l0_3.length c0_3) := (blk_cell BK101.out 3).trans rfl
      have hcz5_4 : w3.cell? ⟨gb101, 4, none⟩ = some (.slice A0_4 l0_4.length c0_4) := (blk_cell BK101.out 4).trans rfl
      have hcz5_5 : w3.cell? ⟨gb101, 5, none⟩ = some (.slice A0_5 l0_5.length c0_5) := (blk_cell BK101.out 5).trans rfl
      have hfz5_0 := blk_frozen BK101.out 0
      have hfz5_1 := blk_frozen BK101.out 1
      have hfz5_2 := blk_frozen BK101.out 2
      have hfz5_3 := blk_frozen BK101.out 3
      have hfz5_4 := blk_frozen BK101.out 4
      have hfz5_5 := blk_frozen BK101.out 5
      go_wp2
      go_meet
      case rel => exact ⟨_, (true), (by first | rfl | (simp; done) | (simp [*]; done)), H', ⟨by first | omega | exact Nat.le_refl _⟩, ⟨by (with_reducible repeat (first | refine blk_drewN ?_ _ | refine blk_drew ?_ | refine blk_alloc ?_ _)); exact BK101.out⟩, ⟨by repeat (first | (with_reducible first | exact HB.out | apply below_alloc | apply pw_below_drewN | apply below_drew1 | refine below_set ?_ GE101.out) | exact HB.out)⟩⟩
    · rw [if_neg c4] at H
      have c4b0 : ((l0_3.length : Int) == 0) = false := beq_eq_false_iff_ne.mpr c4
      have c4b1 : ((l0_3.length : Int) != 0) = true := bne_iff_ne.mpr c4
      have c4b2 : ¬ (l0_3 = []) := fun h_ => c4 (by rw [h_]; rfl)
      (first | rw [c4b0] | (simp only [i64_w, i32_w]; rw [c4b0]) | skip)
      have H' := Aside0.mk H
      clear H
      have hcz6_0 : w3.cell? ⟨gb101, 0, none⟩ = some (.string a0_0) := (blk_cell BK101.out 0).trans rfl
      have hcz6_1 : w3.cell? ⟨gb101, 1, none⟩ = some (.slice A0_1 l0_1.length c0_1) := (blk_cell BK101.out 1).trans rfl
      have hcz6_2 : w3.cell? ⟨gb101, 2, none⟩ = some (.slice A0_2 l0_2.length c0_2) := (blk_cell BK101.out 2).trans rfl
      have hcz6_3 : w3.cell? ⟨gb101, 3, none⟩ = some (.slice A0_3 l0_3.length c0_3) := (blk_cell BK101.out 3).trans rfl
      have hcz6_4 : w3.cell? ⟨gb101, 4, none⟩ = some (.slice A0_4 l0_4.length c0_4) := (blk_cell BK101.out 4).trans rfl
      have hcz6_5 : w3.cell? ⟨gb101, 5, none⟩ = some (.slice A0_5 l0_5.length c0_5) := (blk_cell BK101.out 5).trans rfl
      have hfz6_0 := blk_frozen BK101.out 0
      have hfz6_1 := blk_frozen BK101.out 1
      have hfz6_2 := blk_frozen BK101.out 2
      have hfz6_3 := blk_frozen BK101.out 3
      have hfz6_4 := blk_frozen BK101.out 4
      have hfz6_5 := blk_frozen BK101.out 5
      go_wp2
      go_meet
      case rel => exact ⟨_, (decide ((l0_3.length : Int) < (l0_1.length : Int))), (by first | rfl | (simp; done) | (simp [*]; done)), H', ⟨by first | omega | exact Nat.le_refl _⟩, ⟨by (with_reducible repeat (first | refine blk_drewN ?_ _ | refine blk_drew ?_ | refine blk_alloc ?_ _)); exact BK101.out⟩, ⟨by repeat (first | (with_reducible first | exact HB.out | apply below_alloc | apply pw_below_drewN | apply below_drew1 | refine below_set ?_ GE101.out) | exact HB.out)⟩⟩
  case rest =>
    clear HC2
    try clear p2
    try clear c3
    try clear c4
    try clear c4b0
    try clear c4b1
    try clear c4b2
    try clear hcz5_0
    try clear hcz5_1
    try clear hcz5_2
    try clear hcz5_3
    try clear hcz5_4
    try clear hcz5_5
    try clear hcz6_0
    try clear hcz6_1
    try clear hcz6_2
    try clear hcz6_3
    try clear hcz6_4
    try clear hcz6_5
    try clear hfz5_0
    try clear hfz5_1
    try clear hfz5_2
    try clear hfz5_3
    try clear hfz5_4
    try clear hfz5_5
    try clear hfz6_0
    try clear hfz6_1
    try clear hfz6_2
    try clear hfz6_3
    try clear hfz6_4
    try clear hfz6_5
    obtain ⟨kq, x20_1, rfl, HA, HJ1, BK101, HB⟩ := hcut
    cases kq with
    | zero => exact absurd HA.out (by simp [valid_words.j0])
    | succ kj1 =>
      have H := HA.out
      clear HA
      simp only [valid_words.j0] at H
      by_cases c7 : x20_1 = true
      · subst c7
        have H1 : (some (4, 0)) = some (r1, r2) := by rw [if_pos rfl] at H; exact H
        clear H
        have H := H1
        clear H1
        simp only [Option.some.injEq, Prod.mk.injEq] at H
        obtain ⟨rfl, rfl⟩ := H
        go_wp2
        go_ret2
        exact ⟨by first | rfl | (simp [errW_none, errW_some] <;> rfl) | (simp [*, errW_none, errW_some] <;> rfl), by repeat (first | (with_reducible first | exact HB.out | apply below_alloc | apply pw_below_drewN | apply below_drew1 | refine below_set ?_ GE101.out) | exact HB.out)⟩
      · replace c7 := Bool.eq_false_iff.mpr c7
        subst c7
        have H1 : (valid_words.l0 kj1 l0_3 (l0_3.length : Int) 0) = some (r1, r2) := by rw [if_neg (show ¬ (false = true) by decide)] at H; exact H
        clear H
        have H := H1
        clear H1
        have H' := Aside0.mk H
        clear H
        have hcz8_0 : wc.cell? ⟨gb101, 0, none⟩ = some (.string a0_0) := (blk_cell BK101.out 0).trans rfl
        have hcz8_1 : wc.cell? ⟨gb101, 1, none⟩ = some (.slice A0_1 l0_1.length c0_1) := (blk_cell BK101.out 1).trans rfl
        have hcz8_2 : wc.cell? ⟨gb101, 2, none⟩ = some (.slice A0_2 l0_2.length c0_2) := (blk_cell BK101.out 2).trans rfl
        have hcz8_3 : wc.cell? ⟨gb101, 3, none⟩ = some (.slice A0_3 l0_3.length c0_3) := (blk_cell BK101.out 3).trans rfl
        have hcz8_4 : wc.cell? ⟨gb101, 4, none⟩ = some (.slice A0_4 l0_4.length c0_4) := (blk_cell BK101.out 4).trans rfl
        have hcz8_5 : wc.cell? ⟨gb101, 5, none⟩ = some (.slice A0_5 l0_5.length c0_5) := (blk_cell BK101.out 5).trans rfl
        have hfz8_0 := blk_frozen BK101.out 0
        have hfz8_1 := blk_frozen BK101.out 1
        have hfz8_2 := blk_frozen BK101.out 2
        have hfz8_3 := blk_frozen BK101.out 3
        have hfz8_4 := blk_frozen BK101.out 4
        have hfz8_5 := blk_frozen BK101.out 5
        go_wp2
        go_loopg [24] kj1 (fun kq v24 w' => ∃ (x24_2 : Int), v24 = .int .i64 x24_2 ∧ Aside0 (valid_words.l0 kq l0_3 (l0_3.length : Int) x24_2 = some (r1, r2)) ∧ Aside0 (kq ≤ kj1) ∧ Aside0 (w'.heap[gb101]? = some (.cells #[.string a0_0, (.slice A0_1 l0_1.length c0_1), (.slice A0_2 l0_2.length c0_2), (.slice A0_3 l0_3.length c0_3), (.slice A0_4 l0_4.length c0_4), (.slice A0_5 l0_5.length c0_5)] 26 (0, 0))) ∧ Aside0 (Below w.heap.size w w'))
        case atStart => exact ⟨(0), (by first | rfl | (simp; done) | (simp [*]; done)), H', ⟨Nat.le_refl _⟩, ⟨by (with_reducible repeat (first | refine blk_drewN ?_ _ | refine blk_drew ?_ | refine blk_alloc ?_ _)); exact BK101.out⟩, ⟨by repeat (first | (with_reducible first | exact HB.out | apply below_alloc | apply pw_below_drewN | apply below_drew1 | refine below_set ?_ GE101.out) | exact HB.out)⟩⟩
        case round =>
          clear H'
          try clear p2
          try clear c3
          try clear c4
          try clear c4b0
          try clear c4b1
          try clear c4b2
          try clear c7
          try clear hcz5_0
          try clear hcz5_1
          try clear hcz5_2
          try clear hcz5_3
          try clear hcz5_4
          try clear hcz5_5
          try clear hcz6_0
          try clear hcz6_1
          try clear hcz6_2
          try clear hcz6_3
          try clear hcz6_4
          try clear hcz6_5
          try clear hcz8_0
          try clear hcz8_1
          try clear hcz8_2
          try clear hcz8_3
          try clear hcz8_4
          try clear hcz8_5
          try clear hfz5_0
          try clear hfz5_1
          try clear hfz5_2
          try clear hfz5_3
          try clear hfz5_4
          try clear hfz5_5
          try clear hfz6_0
          try clear hfz6_1
          try clear hfz6_2
          try clear hfz6_3
          try clear hfz6_4
          try clear hfz6_5
          try clear hfz8_0
          try clear hfz8_1
          try clear hfz8_2
          try clear hfz8_3
          try clear hfz8_4
          try clear hfz8_5
          try clear p2
          obtain ⟨x24_2, rfl, HA, HK2, BK101, HB⟩ := hrel
          cases gk with
          | zero => exact absurd HA.out (by simp [valid_words.l0])
          | succ k2 =>
            have H := HA.out
            clear HA
            simp only [valid_words.l0] at H
            by_cases c9 : x24_2 < (l0_3.length : Int)
            · rw [if_pos c9] at H
              have c9b0 : decide (x24_2 < (l0_3.length : Int)) = true := decide_eq_true c9
              clear c9
              by_cases c10 : 0 ≤ x24_2
              · rw [if_pos c10] at H
                have c10b0 : decide (0 ≤ x24_2) = true := decide_eq_true c10
                clear c10
                by_cases c11 : x24_2 < (l0_3.length : Int)
                · rw [if_pos c11] at H
                  have c11b0 : decide (x24_2 < (l0_3.length : Int)) = true := decide_eq_true c11
                  clear c11
                  replace H := Option.bind_eq_some_iff.mp H
                  obtain ⟨⟨t103, t104, t105, t106, t107, t108⟩, A120, H⟩ := H
                  replace H : (if t108 = 0 then (if t103 = 21 then (some (5, x24_2)) else (valid_words.l0 k2 l0_3 (l0_3.length : Int) (wrap64 (x24_2 + 1)))) else (some (5, x24_2))) = some (r1, r2) := H
                  have A12 := Aside0.mk A120
                  clear A120
                  by_cases c13 : t108 = 0
                  · rw [if_pos c13] at H
                    have c13b0 : (t108 == 0) = true := beq_iff_eq.mpr c13
                    have c13b1 : (t108 != 0) = false := bne_eq_false_iff_eq.mpr c13
                    clear c13
                    by_cases c14 : t103 = 21
                    · rw [if_pos c14] at H
                      have c14b0 : (t103 == 21) = true := beq_iff_eq.mpr c14
                      have c14b1 : (t103 != 21) = false := bne_eq_false_iff_eq.mpr c14
                      clear c14
                      simp only [Option.some.injEq, Prod.mk.injEq] at H
                      obtain ⟨rfl, rfl⟩ := H
                      have p102 : 0 ≤ (x24_2 : Int) := of_decide_eq_true (by first | (with_reducible assumption) | assumption)
                      have q102 : x24_2 < (l0_3.length : Int) := of_decide_eq_true (by first | (with_reducible assumption) | assumption)
                      obtain ⟨ad102, e102, hx102_0⟩ := Kd.at_int HR0_3.out x24_2 p102 q102
                      cases e102
                      replace hx102_0 := (HB.out.cell (World.block_lt_of_cell? w _ hx102_0)).trans hx102_0
                      replace p102 := eq_true p102
                      replace q102 := eq_true q102
                      go_wp2_with (first | ((with_reducible refine gate_callee (f := 21) rfl ?_); refine goesL_ (some 31) rfl rfl Tryd.func21 (by kernel_rfl) rfl #[.int .u32 (rd l0_3 x24_2)] rfl (by (try simp only [List.map_toArray, List.map_cons, List.map_nil]); first | done | rfl | (simp only [List.length_drop, List.length_take]; rfl)) ?_; (with_reducible refine (isa_Decode.calls k2 (rd l0_3 x24_2) t103 t104 t105 t106 t107 t108 _ A12.out).mono ?_); rintro e w15 ⟨rfl, hb⟩; refine ⟨_, rfl, ?_⟩; have n0_ := Aside0.mk (blk_below (g := gb101) (o := .cells #[.string a0_0, .slice A0_1 l0_1.length c0_1, .slice A0_2 l0_2.length c0_2, .slice (some ad102) l0_3.length c0_3, .slice A0_4 l0_4.length c0_4, .slice A0_5 l0_5.length c0_5] 26 (0, 0)) (by (with_reducible repeat (first | refine blk_drewN ?_ _ | refine blk_drew ?_ | refine blk_alloc ?_ _)); exact BK101.out) hb); have n1_ := Aside0.mk (below_step (by repeat (first | (with_reducible first | exact HB.out | apply below_alloc | apply pw_below_drewN | apply below_drew1 | refine below_set ?_ GE101.out) | exact HB.out)) hb); clear BK101; clear HB; have BK101 := n0_; have HB := n1_; clear n0_ n1_; (try clear hb); (try clear hb2); (try clear hk); (try clear hi)) | ((with_reducible refine gate_dst (N := 6) rfl ?_); (try (refine gate_guard (by rfl) ?_; dsimp only)); refine box_event ?hg (N := 6) ?hd (cs := #[.int .u8 0, .int .u8 0, .int .u8 0, .int .u8 0, .int .i32 0]) (t := 47) ?hr ?_; (case hd => rfl); (case hg => rfl); (case hr => first | (go_simp; done) | (go_simp; rfl)); intro gb109 hg w16 hbox hb; have n0_ := Aside0.mk (blk_below (g := gb101) (o := .cells #[.string a0_0, .slice A0_1 l0_1.length c0_1, .slice A0_2 l0_2.length c0_2, .slice (some ad102) l0_3.length c0_3, .slice A0_4 l0_4.length c0_4, .slice A0_5 l0_5.length c0_5] 26 (0, 0)) (by (with_reducible repeat (first | refine blk_drewN ?_ _ | refine blk_drew ?_ | refine blk_alloc ?_ _)); exact BK101.out) hb); have n1_ := Aside0.mk (below_step (by repeat (first | (with_reducible first | exact HB.out | apply below_alloc | apply pw_below_drewN | apply below_drew1 | refine below_set ?_ GE101.out) | exact HB.out)) hb); have n2_ := Aside0.mk (hbox); have n3_ := Aside0.mk ((by rw [hg]; exact (below_size (by repeat (first | (with_reducible first | exact HB.out | apply below_alloc | apply pw_below_drewN | apply below_drew1 | refine below_set ?_ GE101.out) | exact HB.out))) : w.heap.size ≤ gb109)); have n4_ := Aside0.mk ((by rw [hg]; exact (below_size (by repeat (first | (with_reducible first | exact HB.out | apply below_alloc | apply pw_below_drewN | apply below_drew1 | refine below_set ?_ GE101.out) | exact HB.out))) : w.heap.size ≤ gb109)); have n5_ := Aside0.mk ((by rw [hg]; exact Nat.ne_of_lt (blk_lt (g := gb101) (o := .cells #[.string a0_0, .slice A0_1 l0_1.length c0_1, .slice A0_2 l0_2.length c0_2, .slice (some ad102) l0_3.length c0_3, .slice A0_4 l0_4.length c0_4, .slice A0_5 l0_5.length c0_5] 26 (0, 0)) (by (with_reducible repeat (first | refine blk_drewN ?_ _ | refine blk_drew ?_ | refine blk_alloc ?_ _)); exact BK101.out)) : gb101 ≠ gb109)); have n6_ := Aside0.mk ((by rw [hg]; exact Nat.ne_of_gt (blk_lt (g := gb101) (o := .cells #[.string a0_0, .slice A0_1 l0_1.length c0_1, .slice A0_2 l0_2.length c0_2, .slice (some ad102) l0_3.length c0_3, .slice A0_4 l0_4.length c0_4, .slice A0_5 l0_5.length c0_5] 26 (0, 0)) (by (with_reducible repeat (first | refine blk_drewN ?_ _ | refine blk_drew ?_ | refine blk_alloc ?_ _)); exact BK101.out)) : gb109 ≠ gb101)); clear BK101; clear HB; have BK101 := n0_; have HB := n1_; have BK109 := n2_; have GW109 := n3_; have GE109 := n4_; have NB101_109 := n5_; have NB109_101 := n6_; clear n0_ n1_ n2_ n3_ n4_ n5_ n6_; clear hb hbox hg; have hnb17 := NB109_101.out; have hnc17 := NB101_109.out; have hcz18_0 : w16.cell? ⟨gb109, 0, none⟩ = some (.int .u8 0) := (blk_cell BK109.out 0).trans rfl; have hcz18_1 : w16.cell? ⟨gb109, 1, none⟩ = some (.int .u8 0) := (blk_cell BK109.out 1).trans rfl; have hcz18_2 : w16.cell? ⟨gb109, 2, none⟩ = some (.int .u8 0) := (blk_cell BK109.out 2).trans rfl; have hcz18_3 : w16.cell? ⟨gb109, 3, none⟩ = some (.int .u8 0) := (blk_cell BK109.out 3).trans rfl; have hcz18_4 : w16.cell? ⟨gb109, 4, none⟩ = some (.int .i32 0) := (blk_cell BK109.out 4).trans rfl; have hfz18_0 := blk_frozen BK109.out 0; have hfz18_1 := blk_frozen BK109.out 1; have hfz18_2 := blk_frozen BK109.out 2; have hfz18_3 := blk_frozen BK109.out 3; have hfz18_4 := blk_frozen BK109.out 4))
                      go_ret2
                      exact ⟨by first | rfl | (simp [errW_none, errW_some] <;> rfl) | (simp [*, errW_none, errW_some] <;> rfl), by repeat (first | (with_reducible first | exact HB.out | apply below_alloc | apply pw_below_drewN | apply below_drew1 | refine below_set ?_ GE101.out | refine below_set ?_ GE109.out) | exact HB.out)⟩
                    · rw [if_neg c14] at H
                      have c14b0 : (t103 == 21) = false := beq_eq_false_iff_ne.mpr c14
                      have c14b1 : (t103 != 21) = true := bne_iff_ne.mpr c14
                      have H' := Aside0.mk H
                      clear H
                      have p102 : 0 ≤ (x24_2 : Int) := of_decide_eq_true (by first | (with_reducible assumption) | assumption)
                      have q102 : x24_2 < (l0_3.length : Int) := of_decide_eq_true (by first | (with_reducible assumption) | assumption)
                      obtain ⟨ad102, e102, hx102_0⟩ := Kd.at_int HR0_3.out x24_2 p102 q102
                      cases e102
                      replace hx102_0 := (HB.out.cell (World.block_lt_of_cell? w _ hx102_0)).trans hx102_0
                      replace p102 := eq_true p102
                      replace q102 := eq_true q102
                      go_wp2_with (first | ((with_reducible refine gate_callee (f := 21) rfl ?_); refine goesL_ (some 31) rfl rfl Tryd.func21 (by kernel_rfl) rfl #[.int .u32 (rd l0_3 x24_2)] rfl (by (try simp only [List.map_toArray, List.map_cons, List.map_nil]); first | done | rfl | (simp only [List.length_drop, List.length_take]; rfl)) ?_; (with_reducible refine (isa_Decode.calls k2 (rd l0_3 x24_2) t103 t104 t105 t106 t107 t108 _ A12.out).mono ?_); rintro e w19 ⟨rfl, hb⟩; refine ⟨_, rfl, ?_⟩; have n0_ := Aside0.mk (blk_below (g := gb101) (o := .cells #[.string a0_0, .slice A0_1 l0_1.length c0_1, .slice A0_2 l0_2.length c0_2, .slice (some ad102) l0_3.length c0_3, .slice A0_4 l0_4.length c0_4, .slice A0_5 l0_5.length c0_5] 26 (0, 0)) (by (with_reducible repeat (first | refine blk_drewN ?_ _ | refine blk_drew ?_ | refine blk_alloc ?_ _)); exact BK101.out) hb); have n1_ := Aside0.mk (below_step (by repeat (first | (with_reducible first | exact HB.out | apply below_alloc | apply pw_below_drewN | apply below_drew1 | refine below_set ?_ GE101.out) | exact HB.out)) hb); clear BK101; clear HB; have BK101 := n0_; have HB := n1_; clear n0_ n1_; (try clear hb); (try clear hb2); (try clear hk); (try clear hi)) | ((with_reducible refine gate_dst (N := 6) rfl ?_); (try (refine gate_guard (by rfl) ?_; dsimp only)); refine box_event ?hg (N := 6) ?hd (cs := #[.int .u8 0, .int .u8 0, .int .u8 0, .int .u8 0, .int .i32 0]) (t := 47) ?hr ?_; (case hd => rfl); (case hg => rfl); (case hr => first | (go_simp; done) | (go_simp; rfl)); intro gb109 hg w20 hbox hb; have n0_ := Aside0.mk (blk_below (g := gb101) (o := .cells #[.string a0_0, .slice A0_1 l0_1.length c0_1, .slice A0_2 l0_2.length c0_2, .slice (some ad102) l0_3.length c0_3, .slice A0_4 l0_4.length c0_4, .slice A0_5 l0_5.length c0_5] 26 (0, 0)) (by (with_reducible repeat (first | refine blk_drewN ?_ _ | refine blk_drew ?_ | refine blk_alloc ?_ _)); exact BK101.out) hb); have n1_ := Aside0.mk (below_step (by repeat (first | (with_reducible first | exact HB.out | apply below_alloc | apply pw_below_drewN | apply below_drew1 | refine below_set ?_ GE101.out) | exact HB.out)) hb); have n2_ := Aside0.mk (hbox); have n3_ := Aside0.mk ((by rw [hg]; exact (below_size (by repeat (first | (with_reducible first | exact HB.out | apply below_alloc | apply pw_below_drewN | apply below_drew1 | refine below_set ?_ GE101.out) | exact HB.out))) : w.heap.size ≤ gb109)); have n4_ := Aside0.mk ((by rw [hg]; exact (below_size (by repeat (first | (with_reducible first | exact HB.out | apply below_alloc | apply pw_below_drewN | apply below_drew1 | refine below_set ?_ GE101.out) | exact HB.out))) : w.heap.size ≤ gb109)); have n5_ := Aside0.mk ((by rw [hg]; exact Nat.ne_of_lt (blk_lt (g := gb101) (o := .cells #[.string a0_0, .slice A0_1 l0_1.length c0_1, .slice A0_2 l0_2.length c0_2, .slice (some ad102) l0_3.length c0_3, .slice A0_4 l0_4.length c0_4, .slice A0_5 l0_5.length c0_5] 26 (0, 0)) (by (with_reducible repeat (first | refine blk_drewN ?_ _ | refine blk_drew ?_ | refine blk_alloc ?_ _)); exact BK101.out)) : gb101 ≠ gb109)); have n6_ := Aside0.mk ((by rw [hg]; exact Nat.ne_of_gt (blk_lt (g := gb101) (o := .cells #[.string a0_0, .slice A0_1 l0_1.length c0_1, .slice A0_2 l0_2.length c0_2, .slice (some ad102) l0_3.length c0_3, .slice A0_4 l0_4.length c0_4, .slice A0_5 l0_5.length c0_5] 26 (0, 0)) (by (with_reducible repeat (first | refine blk_drewN ?_ _ | refine blk_drew ?_ | refine blk_alloc ?_ _)); exact BK101.out)) : gb109 ≠ gb101)); clear BK101; clear HB; have BK101 := n0_; have HB := n1_; have BK109 := n2_; have GW109 := n3_; have GE109 := n4_; have NB101_109 := n5_; have NB109_101 := n6_; clear n0_ n1_ n2_ n3_ n4_ n5_ n6_; clear hb hbox hg; have hnb21 := NB109_101.out; have hnc21 := NB101_109.out; have hcz22_0 : w20.cell? ⟨gb109, 0, none⟩ = some (.int .u8 0) := (blk_cell BK109.out 0).trans rfl; have hcz22_1 : w20.cell? ⟨gb109, 1, none⟩ = some (.int .u8 0) := (blk_cell BK109.out 1).trans rfl; have hcz22_2 : w20.cell? ⟨gb109, 2, none⟩ = some (.int .u8 0) := (blk_cell BK109.out 2).trans rfl; have hcz22_3 : w20.cell? ⟨gb109, 3, none⟩ = some (.int .u8 0) := (blk_cell BK109.out 3).trans rfl; have hcz22_4 : w20.cell? ⟨gb109, 4, none⟩ = some (.int .i32 0) := (blk_cell BK109.out 4).trans rfl; have hfz22_0 := blk_frozen BK109.out 0; have hfz22_1 := blk_frozen BK109.out 1; have hfz22_2 := blk_frozen BK109.out 2; have hfz22_3 := blk_frozen BK109.out 3; have hfz22_4 := blk_frozen BK109.out 4))
                      go_roundg k2
                      case measure => have := HJ1.out; have := HK2.out; omega
                      case rel => exact ⟨(wrap64 (x24_2 + 1)), (by first | rfl | (simp; done) | (simp [*]; done)), H', ⟨by have := HJ1.out; have := HK2.out; omega⟩, ⟨by (with_reducible repeat (first | refine blk_drewN ?_ _ | refine blk_drew ?_ | refine blk_alloc ?_ _)); refine blk_far ?_ NB101_109.out _; (with_reducible repeat (first | refine blk_drewN ?_ _ | refine blk_drew ?_ | refine blk_alloc ?_ _)); refine blk_far ?_ NB101_109.out _; (with_reducible repeat (first | refine blk_drewN ?_ _ | refine blk_drew ?_ | refine blk_alloc ?_ _)); refine blk_far ?_ NB101_109.out _; (with_reducible repeat (first | refine blk_drewN ?_ _ | refine blk_drew ?_ | refine blk_alloc ?_ _)); refine blk_far ?_ NB101_109.out _; (with_reducible repeat (first | refine blk_drewN ?_ _ | refine blk_drew ?_ | refine blk_alloc ?_ _)); refine blk_far ?_ NB101_109.out _; (with_reducible repeat (first | refine blk_drewN ?_ _ | refine blk_drew ?_ | refine blk_alloc ?_ _)); exact BK101.out⟩, ⟨by repeat (first | (with_reducible first | exact HB.out | apply below_alloc | apply pw_below_drewN | apply below_drew1 | refine below_set ?_ GE101.out | refine below_set ?_ GE109.out) | exact HB.out)⟩⟩
                  · rw [if_neg c13] at H
                    have c13b0 : (t108 == 0) = false := beq_eq_false_iff_ne.mpr c13
                    have c13b1 : (t108 != 0) = true := bne_iff_ne.mpr c13
                    simp only [Option.some.injEq, Prod.mk.injEq] at H
                    obtain ⟨rfl, rfl⟩ := H
                    have p102 : 0 ≤ (x24_2 : Int) := of_decide_eq_true (by first | (with_reducible assumption) | assumption)
                    have q102 : x24_2 < (l0_3.length : Int) := of_decide_eq_true (by first | (with_reducible assumption) | assumption)
                    obtain ⟨ad102, e102, hx102_0⟩ := Kd.at_int HR0_3.out x24_2 p102 q102
                    cases e102
                    replace hx102_0 := (HB.out.cell (World.block_lt_of_cell? w _ hx102_0)).trans hx102_0
                    replace p102 := eq_true p102
                    replace q102 := eq_true q102
                    go_wp2_with (first | ((with_reducible refine gate_callee (f := 21) rfl ?_); refine goesL_ (some 31) rfl rfl Tryd.func21 (by kernel_rfl) rfl #[.int .u32 (rd l0_3 x24_2)] rfl (by (try simp only [List.map_toArray, List.map_cons, List.map_nil]); first | done | rfl | (simp only [List.length_drop, List.length_take]; rfl)) ?_; (with_reducible refine (isa_Decode.calls k2 (rd l0_3 x24_2) t103 t104 t105 t106 t107 t108 _ A12.out).mono ?_); rintro e w23 ⟨rfl, hb⟩; refine ⟨_, rfl, ?_⟩; have n0_ := Aside0.mk (blk_below (g := gb101) (o := .cells #[.string a0_0, .slice A0_1 l0_1.length c0_1, .slice A0_2 l0_2.length c0_2, .slice (some ad102) l0_3.length c0_3, .slice A0_4 l0_4.length c0_4, .slice A0_5 l0_5.length c0_5] 26 (0, 0)) (by (with_reducible repeat (first | refine blk_drewN ?_ _ | refine blk_drew ?_ | refine blk_alloc ?_ _)); exact BK101.out) hb); have n1_ := Aside0.mk (below_step (by repeat (first | (with_reducible first | exact HB.out | apply below_alloc | apply pw_below_drewN | apply below_drew1 | refine below_set ?_ GE101.out) | exact HB.out)) hb); clear BK101; clear HB; have BK101 := n0_; have HB := n1_; clear n0_ n1_; (try clear hb); (try clear hb2); (try clear hk); (try clear hi)) | ((with_reducible refine gate_dst (N := 6) rfl ?_); (try (refine gate_guard (by rfl) ?_; dsimp only)); refine box_event ?hg (N := 6) ?hd (cs := #[.int .u8 0, .int .u8 0, .int .u8 0, .int .u8 0, .int .i32 0]) (t := 47) ?hr ?_; (case hd => rfl); (case hg => rfl); (case hr => first | (go_simp; done) | (go_simp; rfl)); intro gb109 hg w24 hbox hb; have n0_ := Aside0.mk (blk_below (g := gb101) (o := .cells #[.string a0_0, .slice A0_1 l0_1.length c0_1, .slice A0_2 l0_2.length c0_2, .slice (some ad102) l0_3.length c0_3, .slice A0_4 l0_4.length c0_4, .slice A0_5 l0_5.length c0_5] 26 (0, 0)) (by (with_reducible repeat (first | refine blk_drewN ?_ _ | refine blk_drew ?_ | refine blk_alloc ?_ _)); exact BK101.out) hb); have n1_ := Aside0.mk (below_step (by repeat (first | (with_reducible first | exact HB.out | apply below_alloc | apply pw_below_drewN | apply below_drew1 | refine below_set ?_ GE101.out) | exact HB.out)) hb); have n2_ := Aside0.mk (hbox); have n3_ := Aside0.mk ((by rw [hg]; exact (below_size (by repeat (first | (with_reducible first | exact HB.out | apply below_alloc | apply pw_below_drewN | apply below_drew1 | refine below_set ?_ GE101.out) | exact HB.out))) : w.heap.size ≤ gb109)); have n4_ := Aside0.mk ((by rw [hg]; exact (below_size (by repeat (first | (with_reducible first | exact HB.out | apply below_alloc | apply pw_below_drewN | apply below_drew1 | refine below_set ?_ GE101.out) | exact HB.out))) : w.heap.size ≤ gb109)); have n5_ := Aside0.mk ((by rw [hg]; exact Nat.ne_of_lt (blk_lt (g := gb101) (o := .cells #[.string a0_0, .slice A0_1 l0_1.length c0_1, .slice A0_2 l0_2.length c0_2, .slice (some ad102) l0_3.length c0_3, .slice A0_4 l0_4.length c0_4, .slice A0_5 l0_5.length c0_5] 26 (0, 0)) (by (with_reducible repeat (first | refine blk_drewN ?_ _ | refine blk_drew ?_ | refine blk_alloc ?_ _)); exact BK101.out)) : gb101 ≠ gb109)); have n6_ := Aside0.mk ((by rw [hg]; exact Nat.ne_of_gt (blk_lt (g := gb101) (o := .cells #[.string a0_0, .slice A0_1 l0_1.length c0_1, .slice A0_2 l0_2.length c0_2, .slice (some ad102) l0_3.length c0_3, .slice A0_4 l0_4.length c0_4, .slice A0_5 l0_5.length c0_5] 26 (0, 0)) (by (with_reducible repeat (first | refine blk_drewN ?_ _ | refine blk_drew ?_ | refine blk_alloc ?_ _)); exact BK101.out)) : gb109 ≠ gb101)); clear BK101; clear HB; have BK101 := n0_; have HB := n1_; have BK109 := n2_; have GW109 := n3_; have GE109 := n4_; have NB101_109 := n5_; have NB109_101 := n6_; clear n0_ n1_ n2_ n3_ n4_ n5_ n6_; clear hb hbox hg; have hnb25 := NB109_101.out; have hnc25 := NB101_109.out; have hcz26_0 : w24.cell? ⟨gb109, 0, none⟩ = some (.int .u8 0) := (blk_cell BK109.out 0).trans rfl; have hcz26_1 : w24.cell? ⟨gb109, 1, none⟩ = some (.int .u8 0) := (blk_cell BK109.out 1).trans rfl; have hcz26_2 : w24.cell? ⟨gb109, 2, none⟩ = some (.int .u8 0) := (blk_cell BK109.out 2).trans rfl; have hcz26_3 : w24.cell? ⟨gb109, 3, none⟩ = some (.int .u8 0) := (blk_cell BK109.out 3).trans rfl; have hcz26_4 : w24.cell? ⟨gb109, 4, none⟩ = some (.int .i32 0) := (blk_cell BK109.out 4).trans rfl; have hfz26_0 := blk_frozen BK109.out 0; have hfz26_1 := blk_frozen BK109.out 1; have hfz26_2 := blk_frozen BK109.out 2; have hfz26_3 := blk_frozen BK109.out 3; have hfz26_4 := blk_frozen BK109.out 4))
                    go_ret2
                    exact ⟨by first | rfl | (simp [errW_none, errW_some] <;> rfl) | (simp [*, errW_none, errW_some] <;> rfl), by repeat (first | (with_reducible first | exact HB.out | apply below_alloc | apply pw_below_drewN | apply below_drew1 | refine below_set ?_ GE101.out | refine below_set ?_ GE109.out) | exact HB.out)⟩
                · rw [if_neg c11] at H
                  exact absurd H (by simp)
              · rw [if_neg c10] at H
                exact absurd H (by simp)
            · rw [if_neg c9] at H
              have c9b0 : decide (x24_2 < (l0_3.length : Int)) = false := decide_eq_false c9
              clear c9
              simp only [Option.some.injEq, Prod.mk.injEq] at H
              obtain ⟨rfl, rfl⟩ := H
              go_wp2
              go_ret2
              exact ⟨by first | rfl | (simp [errW_none, errW_some] <;> rfl) | (simp [*, errW_none, errW_some] <;> rfl), by repeat (first | (with_reducible first | exact HB.out | apply below_alloc | apply pw_below_drewN | apply below_drew1 | refine below_set ?_ GE101.out) | exact HB.out)⟩

end Go.Proofs.YtiphindialkmnaaDoor.X
end
section
namespace Go.Proofs.YtiphindialkmnaaDoor.X
open Go.RowKit Go.Proofs.YtiphindialkmnaaDoorW.PrintWords Go.Proofs.YtiphindialkmnaaDoorW.PrintLast Go.Proofs.YtiphindialkmnaaDoorW.PrintMore
attribute [local go_sem] max2_int min2_int max_two min_two max_three min_three max_four min_four
set_option linter.unusedVariables false
set_option linter.unusedSimpArgs false

/-! ### budwoodref10_Size: function 13 -/
def budwoodref10_Size.l0 : Nat → Int → List Int → Int → Option (Int)
  | 0, _, _, _ => none
  | k + 1, x3, x4, x5 => if x5 < 4 then (if x3 ≤ 65536 then (if 0 ≤ x5 then (if x5 < (x4.length : Int) then (budwoodref10_Size.l0 k (wrap64 (x3 + (mn (rd x4 x5) 65536))) x4 (wrap64 (x5 + 1))) else (none)) else (none)) else (some x3)) else (some x3)
def budwoodref10_Size.f (k : Nat) (a0_0 : ByteArray) (l0_1 : List ByteArray) (l0_2 : List ByteArray) (l0_3 : List Int) (l0_4 : List Int) (l0_5 : List (S43)) : Option (Int) := budwoodref10_Size.l0 k (l0_1.length : Int) (([(l0_2.length : Int), (l0_3.length : Int), (l0_4.length : Int), (l0_5.length : Int)] : List Int)) 0
theorem budwoodref10_Size.mono_l : ∀ k, (∀ y0 y1 y2, LeO (budwoodref10_Size.l0 k y0 y1 y2) (budwoodref10_Size.l0 (k + 1) y0 y1 y2))
  | 0 => fun _ _ _ r h => by simp [budwoodref10_Size.l0] at h
  | k + 1 => by
    have ih0 := budwoodref10_Size.mono_l k
    · intro y0 y1 y2
      unfold budwoodref10_Size.l0
      repeat' first
      | (with_reducible exact ih0 _ _ _)
      | (with_reducible exact LeO.refl _)
      | (with_reducible exact LeO.none _)
      | (with_reducible refine LeO.ite ?_ ?_)
      | (with_reducible refine LeO.bind ?_ (fun _ => ?_))
      | exact ih0 _ _ _
      | exact LeO.none _
      | refine LeO.ite ?_ ?_
      | refine LeO.bind ?_ (fun _ => ?_)
theorem budwoodref10_Size.mono : ∀ a0 a1 a2 a3 a4 a5 k, LeO (budwoodref10_Size.f k a0 a1 a2 a3 a4 a5) (budwoodref10_Size.f (k + 1) a0 a1 a2 a3 a4 a5) := by
  intro a0 a1 a2 a3 a4 a5 k
  have ih0 := budwoodref10_Size.mono_l k
  unfold budwoodref10_Size.f
  repeat' first
      | (with_reducible exact ih0 _ _ _)
      | (with_reducible exact LeO.refl _)
      | (with_reducible exact LeO.none _)
      | (with_reducible refine LeO.ite ?_ ?_)
      | (with_reducible refine LeO.bind ?_ (fun _ => ?_))
      | exact ih0 _ _ _
      | exact LeO.none _
      | refine LeO.ite ?_ ?_
      | refine LeO.bind ?_ (fun _ => ?_)
set_option maxHeartbeats 8000000 in
set_option maxRecDepth 100000 in
theorem budwoodref10_Size.calls (k : Nat) (a0_0 : ByteArray) (A0_1 : Option Addr) (c0_1 : Nat) (l0_1 : List ByteArray) (A0_2 : Option Addr) (c0_2 : Nat) (l0_2 : List ByteArray) (A0_3 : Option Addr) (c0_3 : Nat) (l0_3 : List Int) (A0_4 : Option Addr) (c0_4 : Nat) (l0_4 : List Int) (A0_5 : Option Addr) (c0_5 : Nat) (l0_5 : List (S43)) (r : Int) (w : World) (hr0_1 : Kd.C Kd.string w A0_1 l0_1.length l0_1) (hc0_1 : l0_1.length ≤ c0_1) (hr0_2 : Kd.C Kd.string w A0_2 l0_2.length l0_2) (hc0_2 : l0_2.length ≤ c0_2) (hr0_3 : Kd.C (Kd.int .u32) w A0_3 l0_3.length l0_3) (hc0_3 : l0_3.length ≤ c0_3) (hr0_4 : Kd.C (Kd.int .u32) w A0_4 l0_4.length l0_4) (hc0_4 : l0_4.length ≤ c0_4) (hr0_5 : Kd.C k43 w A0_5 l0_5.length l0_5) (hc0_5 : l0_5.length ≤ c0_5) (h : budwoodref10_Size.f k a0_0 l0_1 l0_2 l0_3 l0_4 l0_5 = some r) :
    Calls Tryd.prog 13 #[.agg #[.string a0_0, .slice A0_1 l0_1.length c0_1, .slice A0_2 l0_2.length c0_2, .slice A0_3 l0_3.length c0_3, .slice A0_4 l0_4.length c0_4, .slice A0_5 l0_5.length c0_5]] w fun e w' => e = .returned (.int .i64 r) ∧ Below w.heap.size w w' := by
  have hu26 := Tryd.underlying26
  have HR0_1 := Aside0.mk hr0_1
  have HC0_1 := Aside0.mk hc0_1
  clear hr0_1 hc0_1
  have HR0_2 := Aside0.mk hr0_2
  have HC0_2 := Aside0.mk hc0_2
  clear hr0_2 hc0_2
  have HR0_3 := Aside0.mk hr0_3
  have HC0_3 := Aside0.mk hc0_3
  clear hr0_3 hc0_3
  have HR0_4 := Aside0.mk hr0_4
  have HC0_4 := Aside0.mk hc0_4
  clear hr0_4 hc0_4
  have HR0_5 := Aside0.mk hr0_5
  have HC0_5 := Aside0.mk hc0_5
  clear hr0_5 hc0_5
  have HB := Aside0.mk (Below.refl w.heap.size w)
  have H : (budwoodref10_Size.l0 k (l0_1.length : Int) (([(l0_2.length : Int), (l0_3.length : Int), (l0_4.length : Int), (l0_5.length : Int)] : List Int)) 0) = some r := h
  clear h
  obtain ⟨y102, hy102⟩ : ∃ y_ : List Int, y_ = (([(l0_2.length : Int), (l0_3.length : Int), (l0_4.length : Int), (l0_5.length : Int)] : List Int)) := ⟨_, rfl⟩
  replace H : (budwoodref10_Size.l0 k (l0_1.length : Int) y102 0) = some r := by first | (rw [hy102]; with_reducible exact H) | (have H2_ := (Option.bind_some _ _).symm.trans H; rw [hy102]; with_reducible exact H2_) | (have H2_ := (Option.bind_some _ _).symm.trans H; with_reducible exact H2_) | with_reducible exact H | (rw [hy102]; exact H) | exact H
  have Ny102 := Aside0.mk hy102
  clear hy102
  have H' := Aside0.mk H
  clear H
  go_enter Tryd.func13, Tryd.ntmps13
  go_wp2_with (first | ((with_reducible refine gate_dst (N := 1) rfl ?_); refine box_event ?hg (N := 1) ?hd (cs := #[.string a0_0, .slice A0_1 l0_1.length c0_1, .slice A0_2 l0_2.length c0_2, .slice A0_3 l0_3.length c0_3, .slice A0_4 l0_4.length c0_4, .slice A0_5 l0_5.length c0_5]) (t := 26) ?hr ?_; (case hd => rfl); (case hg => rfl); (case hr => first | (go_simp; done) | (go_simp; rfl)); intro gb101 hg w2 hbox hb; have n0_ := Aside0.mk (below_step (by repeat (first | (with_reducible first | exact HB.out | apply below_alloc | apply pw_below_drewN | apply below_drew1) | exact HB.out)) hb); have n1_ := Aside0.mk (hbox); have n2_ := Aside0.mk ((by rw [hg]; exact (below_size (by repeat (first | (with_reducible first | exact HB.out | apply below_alloc | apply pw_below_drewN | apply below_drew1) | exact HB.out))) : w.heap.size ≤ gb101)); have n3_ := Aside0.mk ((by rw [hg]; exact (below_size (by repeat (first | (with_reducible first | exact HB.out | apply below_alloc | apply pw_below_drewN | apply below_drew1) | exact HB.out))) : w.heap.size ≤ gb101)); clear HB; have HB := n0_; have BK101 := n1_; have GW101 := n2_; have GE101 := n3_; clear n0_ n1_ n2_ n3_; clear hb hbox hg; have hcz3_0 : w2.cell? ⟨gb101, 0, none⟩ = some (.string a0_0) := (blk_cell BK101.out 0).trans rfl; have hcz3_1 : w2.cell? ⟨gb101, 1, none⟩ = some (.slice A0_1 l0_1.length c0_1) := (blk_cell BK101.out 1).trans rfl; have hcz3_2 : w2.cell? ⟨gb101, 2, none⟩ = some (.slice A0_2 l0_2.length c0_2) := (blk_cell BK101.out 2).trans rfl; have hcz3_3 : w2.cell? ⟨gb101, 3, none⟩ = some (.slice A0_3 l0_3.length c0_3) := (blk_cell BK101.out 3).trans rfl; have hcz3_4 : w2.cell? ⟨gb101, 4, none⟩ = some (.slice A0_4 l0_4.length c0_4) := (blk_cell BK101.out 4).trans rfl; have hcz3_5 : w2.cell? ⟨gb101, 5, none⟩ = some (.slice A0_5 l0_5.length c0_5) := (blk_cell BK101.out 5).trans rfl; have hfz3_0 := blk_frozen BK101.out 0; have hfz3_1 := blk_frozen BK101.out 1; have hfz3_2 := blk_frozen BK101.out 2; have hfz3_3 := blk_frozen BK101.out 3; have hfz3_4 := blk_frozen BK101.out 4; have hfz3_5 := blk_frozen BK101.out 5) | ((with_reducible refine gate_dst (N := 21) rfl ?_); refine Kd.R_lit (Kd.int .i64) _ 3 ?hg (N := 21) ?hd (xs := ([(l0_2.length : Int), (l0_3.length : Int), (l0_4.length : Int), (l0_5.length : Int)] : List Int)) (inner := [.int .i64 (l0_2.length : Int), .int .i64 (l0_3.length : Int), .int .i64 (l0_4.length : Int), .int .i64 (l0_5.length : Int)]) (ok := fun _ => True) (okp := fun _ => True) ?hr ?hp (fun _ hk => hk) trivial (Below.refl _ _) (Nat.le_refl _) (by simp) ?_; (case hd => rfl); (case hg => rfl); (case hr => first | (go_simp; done) | (go_simp; rfl)); (case hp => exact (Reps.one (show Kd.M (Kd.int .i64) _ _ _ (l0_2.length : Int) [.int .i64 (l0_2.length : Int)] from rfl) (Reps.one (show Kd.M (Kd.int .i64) _ _ _ (l0_3.length : Int) [.int .i64 (l0_3.length : Int)] from rfl) (Reps.one (show Kd.M (Kd.int .i64) _ _ _ (l0_4.length : Int) [.int .i64 (l0_4.length : Int)] from rfl) (Reps.one (show Kd.M (Kd.int .i64) _ _ _ (l0_5.length : Int) [.int .i64 (l0_5.length : Int)] from rfl) (Reps.none _ _)))))); intro v103 w4 ho5 hb hg_ hnew_; clear hg_ hnew_; (first | rw [← Ny102.out] at ho5 | (simp only [Int.reduceToNat] at ho5; rw [← Ny102.out] at ho5)); have n0_ := Aside0.mk (Kd.R_lower ho5 (below_size (by repeat (first | (with_reducible first | exact HB.out | apply below_alloc | apply pw_below_drewN | apply below_drew1 | refine below_set ?_ GE101.out) | exact HB.out)))); have n1_ := Aside0.mk (blk_below (g := gb101) (o := .cells #[.string a0_0, .slice A0_1 l0_1.length c0_1, .slice A0_2 l0_2.length c0_2, .slice A0_3 l0_3.length c0_3, .slice A0_4 l0_4.length c0_4, .slice A0_5 l0_5.length c0_5] 26 (0, 0)) (by (with_reducible repeat (first | refine blk_drewN ?_ _ | refine blk_drew ?_ | refine blk_alloc ?_ _)); exact BK101.out) hb); have n2_ := Aside0.mk (below_step (by repeat (first | (with_reducible first | exact HB.out | apply below_alloc | apply pw_below_drewN | apply below_drew1 | refine below_set ?_ GE101.out) | exact HB.out)) hb); clear BK101; clear HB; have HO104 := n0_; have BK101 := n1_; have HB := n2_; clear n0_ n1_ n2_; clear hb ho5))
  go_loopg [3, 5] k (fun kq v3 v5 w' => ∃ (x3_1 : Int) (x5_1 : Int), v3 = .int .i64 x3_1 ∧ v5 = .int .i64 x5_1 ∧ Aside0 (budwoodref10_Size.l0 kq x3_1 y102 x5_1 = some r) ∧ Aside0 (kq ≤ k) ∧ Aside0 (Kd.R (Kd.int .i64) 3 w' w.heap.size (fun _ => True) v103 y102) ∧ Aside0 (w'.heap[gb101]? = some (.cells #[.string a0_0, (.slice A0_1 l0_1.length c0_1), (.slice A0_2 l0_2.length c0_2), (.slice A0_3 l0_3.length c0_3), (.slice A0_4 l0_4.length c0_4), (.slice A0_5 l0_5.length c0_5)] 26 (0, 0))) ∧ Aside0 (Below w.heap.size w w'))
  case atStart => exact ⟨((l0_1.length : Int)), (0), (by first | rfl | (simp; done) | (simp [*]; done)), (by first | rfl | (simp; done) | (simp [*]; done)), H', ⟨Nat.le_refl _⟩, ⟨by (with_reducible repeat (first | apply Kd.R_alloc | apply Kd.R_drewN | apply Kd.R_drew)); exact HO104.out⟩, ⟨by (with_reducible repeat (first | refine blk_drewN ?_ _ | refine blk_drew ?_ | refine blk_alloc ?_ _)); exact BK101.out⟩, ⟨by repeat (first | (with_reducible first | exact HB.out | apply below_alloc | apply pw_below_drewN | apply below_drew1 | refine below_set ?_ GE101.out) | exact HB.out)⟩⟩
  case round =>
    clear H'
    try clear c1
    try clear p2
    try clear hcz3_0
    try clear hcz3_1
    try clear hcz3_2
    try clear hcz3_3
    try clear hcz3_4
    try clear hcz3_5
    try clear hfz3_0
    try clear hfz3_1
    try clear hfz3_2
    try clear hfz3_3
    try clear hfz3_4
    try clear hfz3_5
    obtain ⟨x3_1, x5_1, rfl, rfl, HA, HK1, HO_4, BK101, HB⟩ := hrel
    cases gk with
    | zero => exact absurd HA.out (by simp [budwoodref10_Size.l0])
    | succ k1 =>
      have H := HA.out
      clear HA
      simp only [budwoodref10_Size.l0] at H
      by_cases c6 : x5_1 < 4
      · rw [if_pos c6] at H
        have c6b0 : decide (x5_1 < 4) = true := decide_eq_true c6
        clear c6
        by_cases c7 : x3_1 ≤ 65536
        · rw [if_pos c7] at H
          have c7b0 : decide (x3_1 ≤ 65536) = true := decide_eq_true c7
          clear c7
          by_cases c8 : 0 ≤ x5_1
          · rw [if_pos c8] at H
            have c8b0 : decide (0 ≤ x5_1) = true := decide_eq_true c8
            clear c8
            by_cases c9 : x5_1 < (y102.length : Int)
            · rw [if_pos c9] at H
              have c9b0 : decide (x5_1 < (y102.length : Int)) = true := decide_eq_true c9
              clear c9
              obtain ⟨ji10, hji10⟩ : ∃ j_ : Int, (mn (rd y102 x5_1) 65536) = j_ := ⟨_, rfl⟩
              replace H : (budwoodref10_Size.l0 k1 (wrap64 (x3_1 + (ji10))) y102 (wrap64 (x5_1 + 1))) = some r := by first | (rw [hji10] at H; exact H) | (simp only [hji10] at H ⊢; exact H)
              have hji10_ : (if 65536 < (rd y102 x5_1) then 65536 else (rd y102 x5_1)) = ji10 := hji10
              have H' := Aside0.mk H
              clear H
              obtain ⟨Ao11, co11, eo11⟩ := Kd.R_slice HO_4.out
              subst eo11
              have p105 : 0 ≤ (x5_1 : Int) := of_decide_eq_true (by first | (with_reducible assumption) | assumption)
              have q105 : x5_1 < (y102.length : Int) := of_decide_eq_true (by first | (with_reducible assumption) | assumption)
              obtain ⟨ad105, e105, hx105_0⟩ := Kd.at_int (Kd.R_reads' HO_4.out).2.2 x5_1 p105 q105
              cases e105
              replace p105 := eq_true p105
              replace q105 := eq_true q105
              go_wp2
              go_roundg k1
              case measure => have := HK1.out; omega
              case rel => exact ⟨(wrap64 (x3_1 + (ji10))), (wrap64 (x5_1 + 1)), (by first | rfl | (simp; done) | (simp only [← hji10] <;> (first | rfl | simp)) | (simp [*]; done)), (by first | rfl | (simp; done) | (simp [*]; done)), H', ⟨by have := HK1.out; omega⟩, ⟨by (with_reducible repeat (first | apply Kd.R_alloc | apply Kd.R_drewN | apply Kd.R_drew)); exact HO_4.out⟩, ⟨by (with_reducible repeat (first | refine blk_drewN ?_ _ | refine blk_drew ?_ | refine blk_alloc ?_ _)); exact BK101.out⟩, ⟨by repeat (first | (with_reducible first | exact HB.out | apply below_alloc | apply pw_below_drewN | apply below_drew1 | refine below_set ?_ GE101.out) | exact HB.out)⟩⟩
            · rw [if_neg c9] at H
              exact absurd H (by simp)
          · rw [if_neg c8] at H
            exact absurd H (by simp)
        · rw [if_neg c7] at H
          have c7b0 : decide (x3_1 ≤ 65536) = false := decide_eq_false c7
          clear c7
          obtain rfl := Option.some.inj H
          go_wp2
          go_ret
          exact ⟨by first | rfl | (simp [errW_none, errW_some] <;> rfl) | (simp [*, errW_none, errW_some] <;> rfl), by repeat (first | (with_reducible first | exact HB.out | apply below_alloc | apply pw_below_drewN | apply below_drew1 | refine below_set ?_ GE101.out) | exact HB.out)⟩
      · rw [if_neg c6] at H
        have c6b0 : decide (x5_1 < 4) = false := decide_eq_false c6
        clear c6
        obtain rfl := Option.some.inj H
        go_wp2
        go_ret
        exact ⟨by first | rfl | (simp [errW_none, errW_some] <;> rfl) | (simp [*, errW_none, errW_some] <;> rfl), by repeat (first | (with_reducible first | exact HB.out | apply below_alloc | apply pw_below_drewN | apply below_drew1 | refine below_set ?_ GE101.out) | exact HB.out)⟩

end Go.Proofs.YtiphindialkmnaaDoor.X
end
section
namespace Go.Proofs.YtiphindialkmnaaDoor.X
open Go.RowKit Go.Proofs.YtiphindialkmnaaDoorW.PrintWords Go.Proofs.YtiphindialkmnaaDoorW.PrintLast Go.Proofs.YtiphindialkmnaaDoorW.PrintMore
attribute [local go_sem] max2_int min2_int max_two min_two max_three min_three max_four min_four
set_option linter.unusedVariables false
set_option linter.unusedSimpArgs false

theorem apart_after {v u v1 : Value} {n : Nat} (h : v.ownBlock = none ∨ v.ownBlock ≠ u.ownBlock) (hat : v1.ownBlock = v.ownBlock ∨ ∃ b, v1.ownBlock = some b ∧ n ≤ b) (hlt : ∀ k, u.ownBlock = some k → k < n) : v1.ownBlock = none ∨ v1.ownBlock ≠ u.ownBlock := by
 rcases hat with e | ⟨b, e, hb⟩
 ·rw [e]; exact h
 ·right
  rw [e]
  intro e2
  have := hlt b e2.symm
  omega
theorem apart_after' {v u v1 : Value} {n : Nat} (h : v.ownBlock = none ∨ v.ownBlock ≠ u.ownBlock) (hat : v1.ownBlock = u.ownBlock ∨ ∃ b, v1.ownBlock = some b ∧ n ≤ b) (hlt : ∀ k, v.ownBlock = some k → k < n) : v.ownBlock = none ∨ v.ownBlock ≠ v1.ownBlock := by
 rcases hat with e | ⟨b, e, hb⟩
 ·rw [e]; exact h
 ·right
  rw [e]
  intro e2
  have := hlt b e2
  omega
/-! ### budwoodref10_Copy: function 15 -/
def budwoodref10_Copy.f (a0_0 : ByteArray) (l0_1 : List ByteArray) (l0_2 : List ByteArray) (l0_3 : List Int) (l0_4 : List Int) (l0_5 : List (S43)) : Option (ByteArray × List ByteArray × List ByteArray × List Int × List Int × (List (S43))) := (some (([] : List ByteArray) : List ByteArray)).bind fun y103 => (if y103.length + l0_1.length < 8796093022208 then ((some (([] : List ByteArray) : List ByteArray)).bind fun y109 => (if y109.length + l0_2.length < 8796093022208 then ((some (([] : List Int) : List Int)).bind fun y115 => (if y115.length + l0_3.length < 35184372088832 then ((some (([] : List Int) : List Int)).bind fun y121 => (if y121.length + l0_4.length < 35184372088832 then ((some (([] : List (S43)) : List (S43))).bind fun y127 => (if y127.length + l0_5.length < 23456248059221 then (some (a0_0, (y103 ++ l0_1), (y109 ++ l0_2), (y115 ++ l0_3), (y121 ++ l0_4), (y127 ++ l0_5))) else (none))) else (none))) else (none))) else (none))) else (none))
abbrev qHa := @Kd.R_alloc
abbrev qHb := @Kd.R_drewN
abbrev qHc := @Kd.R_drew
abbrev qHd := @blk_drewN
abbrev qHe := @blk_drew
abbrev qHf := @blk_alloc
abbrev qHg := @below_alloc
abbrev qHh := @pw_below_drewN
abbrev qHi := @below_drew1
abbrev qHj := @Kd.C_alloc
abbrev qHk := @Kd.C_drewN
abbrev qHl := @Kd.C_drew
abbrev qHm := @below_set
abbrev qHn := @Kd.R_below
abbrev qHo := @blk_below
abbrev qHp := @below_step
abbrev qHq := @Kd.C_below
abbrev qHs := @Aside0.mk
def budwoodref10_Copy.T1 : Bool × List (List Nat × List Nat) := (true, [([], []), ([0], [0]), ([], []), ([], []), ([3], [3]), ([2, 4], [2, 4]), ([], []), ([], []), ([7], [7]), ([6, 8, 5], [6, 8]), ([], []), ([], []), ([11], [11]), ([10, 12, 9], [10, 12]), ([], []), ([], []), ([15], [15]), ([14, 16, 13], [14, 16]), ([], []), ([], []), ([19], [19]), ([18, 20, 17], [18, 20]), ([1, 5, 9, 13, 17, 21], [1, 5, 9, 13, 17, 21]), ([22, 21, 0, 1, 2, 3, 4, 5, 6, 7, 8, 9, 10, 11, 12, 13, 14, 15, 16, 17, 18, 19, 20, 21, 22], [22])])
def budwoodref10_Copy.B1 : List Nat := [0, 1, 0, 0, 8, 28, 0, 0, 128, 508, 0, 0, 2048, 8188, 0, 0, 32768, 131068, 0, 0, 524288, 2097148, 4194303, 8388607]
theorem budwoodref10_Copy.tab1 : rtab .any (opsOf Tryd.f15 1) = budwoodref10_Copy.T1 := by kernel_rfl
theorem budwoodref10_Copy.bits1 : waitsOk budwoodref10_Copy.T1.2 budwoodref10_Copy.B1 = true := by kernel_rfl
set_option maxHeartbeats 8000000 in
set_option maxRecDepth 100000 in
theorem budwoodref10_Copy.calls (a0_0 : ByteArray) (A0_1 : Option Addr) (c0_1 : Nat) (l0_1 : List ByteArray) (A0_2 : Option Addr) (c0_2 : Nat) (l0_2 : List ByteArray) (A0_3 : Option Addr) (c0_3 : Nat) (l0_3 : List Int) (A0_4 : Option Addr) (c0_4 : Nat) (l0_4 : List Int) (A0_5 : Option Addr) (c0_5 : Nat) (l0_5 : List (S43)) (r1 : ByteArray) (r2 : List ByteArray) (r3 : List ByteArray) (r4 : List Int) (r5 : List Int) (r6 : List (S43)) (w : World) (hr0_1 : Kd.C Kd.string w A0_1 l0_1.length l0_1) (hc0_1 : l0_1.length ≤ c0_1) (hr0_2 : Kd.C Kd.string w A0_2 l0_2.length l0_2) (hc0_2 : l0_2.length ≤ c0_2) (hr0_3 : Kd.C (Kd.int .u32) w A0_3 l0_3.length l0_3) (hc0_3 : l0_3.length ≤ c0_3) (hr0_4 : Kd.C (Kd.int .u32) w A0_4 l0_4.length l0_4) (hc0_4 : l0_4.length ≤ c0_4) (hr0_5 : Kd.C k43 w A0_5 l0_5.length l0_5) (hc0_5 : l0_5.length ≤ c0_5) (h : budwoodref10_Copy.f a0_0 l0_1 l0_2 l0_3 l0_4 l0_5 = some (r1, r2, r3, r4, r5, r6)) :
  Calls Tryd.prog 15 #[.agg #[.string a0_0, .slice A0_1 l0_1.length c0_1, .slice A0_2 l0_2.length c0_2, .slice A0_3 l0_3.length c0_3, .slice A0_4 l0_4.length c0_4, .slice A0_5 l0_5.length c0_5]] w fun e w' => ∃ v1_ v2_ v3_ v4_ v5_ : Value, e = .returned (.agg #[.string r1, v1_, v2_, v3_, v4_, v5_]) ∧ Kd.R Kd.string 9 w' w.heap.size (fun k_ => some k_ ≠ (v2_ : Value).ownBlock) v1_ r2 ∧ Kd.R Kd.string 9 w' w.heap.size (fun k_ => some k_ ≠ (v1_ : Value).ownBlock) v2_ r3 ∧ Kd.R (Kd.int .u32) 44 w' w.heap.size (fun k_ => some k_ ≠ (v4_ : Value).ownBlock) v3_ r4 ∧ Kd.R (Kd.int .u32) 44 w' w.heap.size (fun k_ => some k_ ≠ (v3_ : Value).ownBlock) v4_ r5 ∧ Kd.R k43 43 w' w.heap.size (fun _ => True) v5_ r6 ∧ Below w.heap.size w w' := by
 have hu26 := Tryd.underlying26
 have HR0_1 := qHs hr0_1
 have HC0_1 := qHs hc0_1
 clear hr0_1 hc0_1
 have HR0_2 := qHs hr0_2
 have HC0_2 := qHs hc0_2
 clear hr0_2 hc0_2
 have HR0_3 := qHs hr0_3
 have HC0_3 := qHs hc0_3
 clear hr0_3 hc0_3
 have HR0_4 := qHs hr0_4
 have HC0_4 := qHs hc0_4
 clear hr0_4 hc0_4
 have HR0_5 := qHs hr0_5
 have HC0_5 := qHs hc0_5
 clear hr0_5 hc0_5
 have HB := qHs (Below.refl w.heap.size w)
 have H : ((some (([] : List ByteArray) : List ByteArray)).bind fun y103 => (if y103.length + l0_1.length < 8796093022208 then ((some (([] : List ByteArray) : List ByteArray)).bind fun y109 => (if y109.length + l0_2.length < 8796093022208 then ((some (([] : List Int) : List Int)).bind fun y115 => (if y115.length + l0_3.length < 35184372088832 then ((some (([] : List Int) : List Int)).bind fun y121 => (if y121.length + l0_4.length < 35184372088832 then ((some (([] : List (S43)) : List (S43))).bind fun y127 => (if y127.length + l0_5.length < 23456248059221 then (some (a0_0, (y103 ++ l0_1), (y109 ++ l0_2), (y115 ++ l0_3), (y121 ++ l0_4), (y127 ++ l0_5))) else (none))) else (none))) else (none))) else (none))) else (none))) = some (r1, r2, r3, r4, r5, r6) := h
 clear h
 obtain ⟨y103, hy103⟩ : ∃ y_ : List ByteArray, y_ = (([] : List ByteArray)) := ⟨_, rfl⟩
 replace H : (if y103.length + l0_1.length < 8796093022208 then ((some (([] : List ByteArray) : List ByteArray)).bind fun y109 => (if y109.length + l0_2.length < 8796093022208 then ((some (([] : List Int) : List Int)).bind fun y115 => (if y115.length + l0_3.length < 35184372088832 then ((some (([] : List Int) : List Int)).bind fun y121 => (if y121.length + l0_4.length < 35184372088832 then ((some (([] : List (S43)) : List (S43))).bind fun y127 => (if y127.length + l0_5.length < 23456248059221 then (some (a0_0, (y103 ++ l0_1), (y109 ++ l0_2), (y115 ++ l0_3), (y121 ++ l0_4), (y127 ++ l0_5))) else (none))) else (none))) else (none))) else (none))) else (none)) = some (r1, r2, r3, r4, r5, r6) := by first | (rw [hy103]; with_reducible exact H) | (have H2_ := (Option.bind_some _ _).symm.trans H; rw [hy103]; with_reducible exact H2_) | (have H2_ := (Option.bind_some _ _).symm.trans H; with_reducible exact H2_) | with_reducible exact H | (rw [hy103]; exact H) | exact H
 have Ny103 := qHs hy103
 clear hy103
 by_cases c2 : y103.length + l0_1.length < 8796093022208
 ·rw [if_pos c2] at H
  have LMc2 := qHs c2
  clear c2
  obtain ⟨y106, hy106⟩ : ∃ y_ : List ByteArray, y_ = (y103 ++ l0_1) := ⟨_, rfl⟩
  replace H : ((some (([] : List ByteArray) : List ByteArray)).bind fun y109 => (if y109.length + l0_2.length < 8796093022208 then ((some (([] : List Int) : List Int)).bind fun y115 => (if y115.length + l0_3.length < 35184372088832 then ((some (([] : List Int) : List Int)).bind fun y121 => (if y121.length + l0_4.length < 35184372088832 then ((some (([] : List (S43)) : List (S43))).bind fun y127 => (if y127.length + l0_5.length < 23456248059221 then (some (a0_0, y106, (y109 ++ l0_2), (y115 ++ l0_3), (y121 ++ l0_4), (y127 ++ l0_5))) else (none))) else (none))) else (none))) else (none))) = some (r1, r2, r3, r4, r5, r6) := by first | (rw [hy106]; with_reducible exact H) | (have H2_ := (Option.bind_some _ _).symm.trans H; rw [hy106]; with_reducible exact H2_) | (have H2_ := (Option.bind_some _ _).symm.trans H; with_reducible exact H2_) | with_reducible exact H | (rw [hy106]; exact H) | exact H
  have Ny106 := qHs hy106
  clear hy106
  obtain ⟨y109, hy109⟩ : ∃ y_ : List ByteArray, y_ = (([] : List ByteArray)) := ⟨_, rfl⟩
  replace H : (if y109.length + l0_2.length < 8796093022208 then ((some (([] : List Int) : List Int)).bind fun y115 => (if y115.length + l0_3.length < 35184372088832 then ((some (([] : List Int) : List Int)).bind fun y121 => (if y121.length + l0_4.length < 35184372088832 then ((some (([] : List (S43)) : List (S43))).bind fun y127 => (if y127.length + l0_5.length < 23456248059221 then (some (a0_0, y106, (y109 ++ l0_2), (y115 ++ l0_3), (y121 ++ l0_4), (y127 ++ l0_5))) else (none))) else (none))) else (none))) else (none)) = some (r1, r2, r3, r4, r5, r6) := by first | (rw [hy109]; with_reducible exact H) | (have H2_ := (Option.bind_some _ _).symm.trans H; rw [hy109]; with_reducible exact H2_) | (have H2_ := (Option.bind_some _ _).symm.trans H; with_reducible exact H2_) | with_reducible exact H | (rw [hy109]; exact H) | exact H
  have Ny109 := qHs hy109
  clear hy109
  by_cases c3 : y109.length + l0_2.length < 8796093022208
  ·rw [if_pos c3] at H
   have LMc3 := qHs c3
   clear c3
   obtain ⟨y112, hy112⟩ : ∃ y_ : List ByteArray, y_ = (y109 ++ l0_2) := ⟨_, rfl⟩
   replace H : ((some (([] : List Int) : List Int)).bind fun y115 => (if y115.length + l0_3.length < 35184372088832 then ((some (([] : List Int) : List Int)).bind fun y121 => (if y121.length + l0_4.length < 35184372088832 then ((some (([] : List (S43)) : List (S43))).bind fun y127 => (if y127.length + l0_5.length < 23456248059221 then (some (a0_0, y106, y112, (y115 ++ l0_3), (y121 ++ l0_4), (y127 ++ l0_5))) else (none))) else (none))) else (none))) = some (r1, r2, r3, r4, r5, r6) := by first | (rw [hy112]; with_reducible exact H) | (have H2_ := (Option.bind_some _ _).symm.trans H; rw [hy112]; with_reducible exact H2_) | (have H2_ := (Option.bind_some _ _).symm.trans H; with_reducible exact H2_) | with_reducible exact H | (rw [hy112]; exact H) | exact H
   have Ny112 := qHs hy112
   clear hy112
   obtain ⟨y115, hy115⟩ : ∃ y_ : List Int, y_ = (([] : List Int)) := ⟨_, rfl⟩
   replace H : (if y115.length + l0_3.length < 35184372088832 then ((some (([] : List Int) : List Int)).bind fun y121 => (if y121.length + l0_4.length < 35184372088832 then ((some (([] : List (S43)) : List (S43))).bind fun y127 => (if y127.length + l0_5.length < 23456248059221 then (some (a0_0, y106, y112, (y115 ++ l0_3), (y121 ++ l0_4), (y127 ++ l0_5))) else (none))) else (none))) else (none)) = some (r1, r2, r3, r4, r5, r6) := by first | (rw [hy115]; with_reducible exact H) | (have H2_ := (Option.bind_some _ _).symm.trans H; rw [hy115]; with_reducible exact H2_) | (have H2_ := (Option.bind_some _ _).symm.trans H; with_reducible exact H2_) | with_reducible exact H | (rw [hy115]; exact H) | exact H
   have Ny115 := qHs hy115
   clear hy115
   by_cases c4 : y115.length + l0_3.length < 35184372088832
   ·rw [if_pos c4] at H
    have LMc4 := qHs c4
    clear c4
    obtain ⟨y118, hy118⟩ : ∃ y_ : List Int, y_ = (y115 ++ l0_3) := ⟨_, rfl⟩
    replace H : ((some (([] : List Int) : List Int)).bind fun y121 => (if y121.length + l0_4.length < 35184372088832 then ((some (([] : List (S43)) : List (S43))).bind fun y127 => (if y127.length + l0_5.length < 23456248059221 then (some (a0_0, y106, y112, y118, (y121 ++ l0_4), (y127 ++ l0_5))) else (none))) else (none))) = some (r1, r2, r3, r4, r5, r6) := by first | (rw [hy118]; with_reducible exact H) | (have H2_ := (Option.bind_some _ _).symm.trans H; rw [hy118]; with_reducible exact H2_) | (have H2_ := (Option.bind_some _ _).symm.trans H; with_reducible exact H2_) | with_reducible exact H | (rw [hy118]; exact H) | exact H
    have Ny118 := qHs hy118
    clear hy118
    obtain ⟨y121, hy121⟩ : ∃ y_ : List Int, y_ = (([] : List Int)) := ⟨_, rfl⟩
    replace H : (if y121.length + l0_4.length < 35184372088832 then ((some (([] : List (S43)) : List (S43))).bind fun y127 => (if y127.length + l0_5.length < 23456248059221 then (some (a0_0, y106, y112, y118, (y121 ++ l0_4), (y127 ++ l0_5))) else (none))) else (none)) = some (r1, r2, r3, r4, r5, r6) := by first | (rw [hy121]; with_reducible exact H) | (have H2_ := (Option.bind_some _ _).symm.trans H; rw [hy121]; with_reducible exact H2_) | (have H2_ := (Option.bind_some _ _).symm.trans H; with_reducible exact H2_) | with_reducible exact H | (rw [hy121]; exact H) | exact H
    have Ny121 := qHs hy121
    clear hy121
    by_cases c5 : y121.length + l0_4.length < 35184372088832
    ·rw [if_pos c5] at H
     have LMc5 := qHs c5
     clear c5
     obtain ⟨y124, hy124⟩ : ∃ y_ : List Int, y_ = (y121 ++ l0_4) := ⟨_, rfl⟩
     replace H : ((some (([] : List (S43)) : List (S43))).bind fun y127 => (if y127.length + l0_5.length < 23456248059221 then (some (a0_0, y106, y112, y118, y124, (y127 ++ l0_5))) else (none))) = some (r1, r2, r3, r4, r5, r6) := by first | (rw [hy124]; with_reducible exact H) | (have H2_ := (Option.bind_some _ _).symm.trans H; rw [hy124]; with_reducible exact H2_) | (have H2_ := (Option.bind_some _ _).symm.trans H; with_reducible exact H2_) | with_reducible exact H | (rw [hy124]; exact H) | exact H
     have Ny124 := qHs hy124
     clear hy124
     obtain ⟨y127, hy127⟩ : ∃ y_ : List (S43), y_ = (([] : List (S43))) := ⟨_, rfl⟩
     replace H : (if y127.length + l0_5.length < 23456248059221 then (some (a0_0, y106, y112, y118, y124, (y127 ++ l0_5))) else (none)) = some (r1, r2, r3, r4, r5, r6) := by first | (rw [hy127]; with_reducible exact H) | (have H2_ := (Option.bind_some _ _).symm.trans H; rw [hy127]; with_reducible exact H2_) | (have H2_ := (Option.bind_some _ _).symm.trans H; with_reducible exact H2_) | with_reducible exact H | (rw [hy127]; exact H) | exact H
     have Ny127 := qHs hy127
     clear hy127
     by_cases c6 : y127.length + l0_5.length < 23456248059221
     ·rw [if_pos c6] at H
      have LMc6 := qHs c6
      clear c6
      obtain ⟨y130, hy130⟩ : ∃ y_ : List (S43), y_ = (y127 ++ l0_5) := ⟨_, rfl⟩
      replace H : (some (a0_0, y106, y112, y118, y124, y130)) = some (r1, r2, r3, r4, r5, r6) := by first | (rw [hy130]; with_reducible exact H) | (have H2_ := (Option.bind_some _ _).symm.trans H; rw [hy130]; with_reducible exact H2_) | (have H2_ := (Option.bind_some _ _).symm.trans H; with_reducible exact H2_) | with_reducible exact H | (rw [hy130]; exact H) | exact H
      have Ny130 := qHs hy130
      clear hy130
      simp only [Option.some.injEq, Prod.mk.injEq] at H
      obtain ⟨rfl, rfl, rfl, rfl, rfl, rfl⟩ := H
      go_enter Tryd.func15, Tryd.ntmps15
      try go_wp2_with (first | ((with_reducible refine gate_dst (N := 1) rfl ?_); refine box_event ?hg (N := 1) ?hd (cs := #[.string a0_0, .slice A0_1 l0_1.length c0_1, .slice A0_2 l0_2.length c0_2, .slice A0_3 l0_3.length c0_3, .slice A0_4 l0_4.length c0_4, .slice A0_5 l0_5.length c0_5]) (t := 26) ?hr ?_; (case hd => rfl); (case hg => rfl); (case hr => first | (go_simp; done) | (go_simp; rfl)); intro gb101 hg w7 hbox hb; have n0_ := qHs (qHp (by repeat (first | (with_reducible first | exact HB.out | apply qHg | apply qHh | apply qHi) | exact HB.out)) hb); have n1_ := qHs (hbox); have n2_ := qHs ((by rw [hg]; exact (below_size (by repeat (first | (with_reducible first | exact HB.out | apply qHg | apply qHh | apply qHi) | exact HB.out))) : w.heap.size ≤ gb101)); have n3_ := qHs ((by rw [hg]; exact (below_size (by repeat (first | (with_reducible first | exact HB.out | apply qHg | apply qHh | apply qHi) | exact HB.out))) : w.heap.size ≤ gb101)); clear HB; have HB := n0_; have BK101 := n1_; have GW101 := n2_; have GE101 := n3_; clear n0_ n1_ n2_ n3_; clear hb hbox hg) | ((with_reducible refine gate_dst (N := 2) rfl ?_); refine box_event ?hg (N := 2) ?hd (cs := #[.string (⟨#[]⟩ : ByteArray), .slice none 0 0, .slice none 0 0, .slice none 0 0, .slice none 0 0, .slice none 0 0]) (t := 26) ?hr ?_; (case hd => rfl); (case hg => rfl); (case hr => first | (go_simp; done) | (go_simp; rfl)); intro gb102 hg w8 hbox hb; have n0_ := qHs (qHo (g := gb101) (o := .cells #[.string a0_0, .slice A0_1 l0_1.length c0_1, .slice A0_2 l0_2.length c0_2, .slice A0_3 l0_3.length c0_3, .slice A0_4 l0_4.length c0_4, .slice A0_5 l0_5.length c0_5] 26 (0, 0)) (by (with_reducible repeat (first | refine qHd ?_ _ | refine qHe ?_ | refine qHf ?_ _)); exact BK101.out) hb); have n1_ := qHs (qHp (by repeat (first | (with_reducible first | exact HB.out | apply qHg | apply qHh | apply qHi | refine qHm ?_ GE101.out) | exact HB.out)) hb); have n2_ := qHs (hbox); have n3_ := qHs ((by rw [hg]; exact (below_size (by repeat (first | (with_reducible first | exact HB.out | apply qHg | apply qHh | apply qHi | refine qHm ?_ GE101.out) | exact HB.out))) : w.heap.size ≤ gb102)); have n4_ := qHs ((by rw [hg]; exact (below_size (by repeat (first | (with_reducible first | exact HB.out | apply qHg | apply qHh | apply qHi | refine qHm ?_ GE101.out) | exact HB.out))) : w.heap.size ≤ gb102)); have n5_ := qHs ((by rw [hg]; exact Nat.ne_of_lt (blk_lt (g := gb101) (o := .cells #[.string a0_0, .slice A0_1 l0_1.length c0_1, .slice A0_2 l0_2.length c0_2, .slice A0_3 l0_3.length c0_3, .slice A0_4 l0_4.length c0_4, .slice A0_5 l0_5.length c0_5] 26 (0, 0)) (by (with_reducible repeat (first | refine qHd ?_ _ | refine qHe ?_ | refine qHf ?_ _)); exact BK101.out)) : gb101 ≠ gb102)); have n6_ := qHs ((by rw [hg]; exact Nat.ne_of_gt (blk_lt (g := gb101) (o := .cells #[.string a0_0, .slice A0_1 l0_1.length c0_1, .slice A0_2 l0_2.length c0_2, .slice A0_3 l0_3.length c0_3, .slice A0_4 l0_4.length c0_4, .slice A0_5 l0_5.length c0_5] 26 (0, 0)) (by (with_reducible repeat (first | refine qHd ?_ _ | refine qHe ?_ | refine qHf ?_ _)); exact BK101.out)) : gb102 ≠ gb101)); clear BK101; clear HB; have BK101 := n0_; have HB := n1_; have BK102 := n2_; have GW102 := n3_; have GE102 := n4_; have NB101_102 := n5_; have NB102_101 := n6_; clear n0_ n1_ n2_ n3_ n4_ n5_ n6_; clear hb hbox hg))
      have n0_ := qHs (qHe BK101.out)
      have n1_ := qHs (qHe BK102.out)
      have n2_ := qHs (qHi HB.out)
      clear BK101
      clear BK102
      clear HB
      have BK101 := n0_
      have BK102 := n1_
      have HB := n2_
      clear n0_ n1_ n2_
      refine start_ (n := 24) (S := fun w' => True) (ds := []) #[false, false, false, false, false, false, false, false, false, false, false, false, false, false, false, false, false, false, false, false, false, false, false, false] (by kernel_rfl) rfl rfl trivial (fun hHeld => ?_); refine with_tabW budwoodref10_Copy.tab1 budwoodref10_Copy.bits1 (fun HT_ HW_ => ?_)
      generalize w8.drew = w9 at BK101 BK102 HB hHeld ⊢
      refine pure_ (i := 0) (N := some 3) (v := ?_) (a' := ?_) #[true, false, false, false, false, false, false, false, false, false, false, false, false, false, false, false, false, false, false, false, false, false, false, false] rfl rfl (any_of HT_.out (by kernel_rfl)) (fun _ _ _ h => h) (Or.inl ⟨by rfl, ?_⟩) ?_ ?_
      rotate_left
      ·intro w'
       go_simp
       with_reducible rfl
      rotate_left
      ·simp only [Act.put, List.setIfInBounds_toArray, List.set_cons_zero, List.set_cons_succ, i64_w, i32_w]
       rfl
      refine pure_ (i := 3) (N := some 6) (v := ?_) (a' := ?_) #[true, false, false, true, false, false, false, false, false, false, false, false, false, false, false, false, false, false, false, false, false, false, false, false] rfl rfl (any_of HT_.out (by kernel_rfl)) (fun _ _ _ h => h) (Or.inl ⟨by rfl, ?_⟩) ?_ ?_
      rotate_left
      ·intro w'
       go_simp
       with_reducible rfl
      rotate_left
      ·simp only [Act.put, List.setIfInBounds_toArray, List.set_cons_zero, List.set_cons_succ, i64_w, i32_w]
       rfl
      refine pure_ (i := 7) (N := some 10) (v := ?_) (a' := ?_) #[true, false, false, true, false, false, false, true, false, false, false, false, false, false, false, false, false, false, false, false, false, false, false, false] rfl rfl (any_of HT_.out (by kernel_rfl)) (fun _ _ _ h => h) (Or.inl ⟨by rfl, ?_⟩) ?_ ?_
      rotate_left
      ·intro w'
       go_simp
       with_reducible rfl
      rotate_left
      ·simp only [Act.put, List.setIfInBounds_toArray, List.set_cons_zero, List.set_cons_succ, i64_w, i32_w]
       rfl
      refine pure_ (i := 11) (N := some 14) (v := ?_) (a' := ?_) #[true, false, false, true, false, false, false, true, false, false, false, true, false, false, false, false, false, false, false, false, false, false, false, false] rfl rfl (any_of HT_.out (by kernel_rfl)) (fun _ _ _ h => h) (Or.inl ⟨by rfl, ?_⟩) ?_ ?_
      rotate_left
      ·intro w'
       go_simp
       with_reducible rfl
      rotate_left
      ·simp only [Act.put, List.setIfInBounds_toArray, List.set_cons_zero, List.set_cons_succ, i64_w, i32_w]
       rfl
      refine pure_ (i := 15) (N := some 18) (v := ?_) (a' := ?_) #[true, false, false, true, false, false, false, true, false, false, false, true, false, false, false, true, false, false, false, false, false, false, false, false] rfl rfl (any_of HT_.out (by kernel_rfl)) (fun _ _ _ h => h) (Or.inl ⟨by rfl, ?_⟩) ?_ ?_
      rotate_left
      ·intro w'
       go_simp
       with_reducible rfl
      rotate_left
      ·simp only [Act.put, List.setIfInBounds_toArray, List.set_cons_zero, List.set_cons_succ, i64_w, i32_w]
       rfl
      refine pure_ (i := 19) (N := some 22) (v := ?_) (a' := ?_) #[true, false, false, true, false, false, false, true, false, false, false, true, false, false, false, true, false, false, false, true, false, false, false, false] rfl rfl (any_of HT_.out (by kernel_rfl)) (fun _ _ _ h => h) (Or.inl ⟨by rfl, ?_⟩) ?_ ?_
      rotate_left
      ·intro w'
       go_simp
       with_reducible rfl
      rotate_left
      ·simp only [Act.put, List.setIfInBounds_toArray, List.set_cons_zero, List.set_cons_succ, i64_w, i32_w]
       rfl
      refine inv_at [1, 2, 4, 5, 6, 8, 9, 10, 12, 13, 14, 16, 17, 18, 20, 21, 22, 23] (fun a0_ b a w' => ∃ (v104 : Value) (v107 : Value) (v110 : Value) (v113 : Value) (v116 : Value) (v119 : Value) (v122 : Value) (v125 : Value) (v128 : Value) (v131 : Value) (m22_ : Value), a = putSel a0_ b [(1, 4, .string a0_0), (2, 5, v104), (4, 7, .slice A0_1 l0_1.length c0_1), (5, 8, v107), (6, 9, v110), (8, 11, .slice A0_2 l0_2.length c0_2), (9, 12, v113), (10, 13, v116), (12, 15, .slice A0_3 l0_3.length c0_3), (13, 16, v119), (14, 17, v122), (16, 19, .slice A0_4 l0_4.length c0_4), (17, 20, v125), (18, 21, v128), (20, 23, .slice A0_5 l0_5.length c0_5), (21, 24, v131), (22, 25, m22_)] ∧ (w'.heap[gb101]? = some (.cells #[.string a0_0, .slice A0_1 l0_1.length c0_1, .slice A0_2 l0_2.length c0_2, .slice A0_3 l0_3.length c0_3, .slice A0_4 l0_4.length c0_4, .slice A0_5 l0_5.length c0_5] 26 (0, 0))) ∧ (b 23 = false → w'.heap[gb102]? = some (.cells #[.string (⟨#[]⟩ : ByteArray), .slice none 0 0, .slice none 0 0, .slice none 0 0, .slice none 0 0, .slice none 0 0] 26 (0, 0))) ∧ (Below w.heap.size w w') ∧ (b 2 = true → b 5 = false → Kd.R Kd.string 9 w' w.heap.size (fun _ => True) v104 y103) ∧ (b 5 = true → Kd.R Kd.string 9 w' w.heap.size (fun _ => True) v107 y106) ∧ (b 6 = true → b 9 = false → Kd.R Kd.string 9 w' w.heap.size (fun _ => True) v110 y109) ∧ (b 9 = true → Kd.R Kd.string 9 w' w.heap.size (fun _ => True) v113 y112) ∧ (b 10 = true → b 13 = false → Kd.R (Kd.int .u32) 44 w' w.heap.size (fun _ => True) v116 y115) ∧ (b 13 = true → Kd.R (Kd.int .u32) 44 w' w.heap.size (fun _ => True) v119 y118) ∧ (b 14 = true → b 17 = false → Kd.R (Kd.int .u32) 44 w' w.heap.size (fun _ => True) v122 y121) ∧ (b 17 = true → Kd.R (Kd.int .u32) 44 w' w.heap.size (fun _ => True) v125 y124) ∧ (b 18 = true → b 21 = false → Kd.R k43 43 w' w.heap.size (fun _ => True) v128 y127) ∧ (b 21 = true → Kd.R k43 43 w' w.heap.size (fun _ => True) v131 y130) ∧ (b 23 = true → w'.heap[gb102]? = some (.cells #[.string a0_0, v107, v113, v119, v125, v131] 26 (0, 0))) ∧ (b 22 = true → (m22_ : Value) = .agg #[.string a0_0, v107, v113, v119, v125, v131]) ∧ (b 2 = true → b 5 = false → b 6 = true → b 9 = false → ((v104 : Value).ownBlock = none ∨ (v104 : Value).ownBlock ≠ (v110 : Value).ownBlock)) ∧ (b 5 = true → b 6 = true → b 9 = false → ((v107 : Value).ownBlock = none ∨ (v107 : Value).ownBlock ≠ (v110 : Value).ownBlock)) ∧ (b 9 = true → ((v107 : Value).ownBlock = none ∨ (v107 : Value).ownBlock ≠ (v113 : Value).ownBlock)) ∧ (b 10 = true → b 13 = false → b 14 = true → b 17 = false → ((v116 : Value).ownBlock = none ∨ (v116 : Value).ownBlock ≠ (v122 : Value).ownBlock)) ∧ (b 13 = true → b 14 = true → b 17 = false → ((v119 : Value).ownBlock = none ∨ (v119 : Value).ownBlock ≠ (v122 : Value).ownBlock)) ∧ (b 17 = true → ((v119 : Value).ownBlock = none ∨ (v119 : Value).ownBlock ≠ (v125 : Value).ownBlock))) HT_.out HW_.out (by kernel_rfl) (by kernel_rfl) ?_ ?_ ?_
      ·exact ⟨.bool false, .bool false, .bool false, .bool false, .bool false, .bool false, .bool false, .bool false, .bool false, .bool false, .bool false, by simp only [putSel, Bool.false_eq_true, if_false], BK101.out, fun _ => BK102.out, HB.out, fun h_ => absurd h_ (by decide), fun h_ => absurd h_ (by decide), fun h_ => absurd h_ (by decide), fun h_ => absurd h_ (by decide), fun h_ => absurd h_ (by decide), fun h_ => absurd h_ (by decide), fun h_ => absurd h_ (by decide), fun h_ => absurd h_ (by decide), fun h_ => absurd h_ (by decide), fun h_ => absurd h_ (by decide), fun h_ => absurd h_ (by decide), fun h_ => absurd h_ (by decide), fun h_ _ _ _ => absurd h_ (by decide), fun h_ _ _ => absurd h_ (by decide), fun h_ => absurd h_ (by decide), fun h_ _ _ _ => absurd h_ (by decide), fun h_ _ _ => absurd h_ (by decide), fun h_ => absurd h_ (by decide)⟩
      ·skip
       clear BK101 BK102 HB
       refine steps_cons ?_ ?_
       ·rintro b a w' ⟨v104, v107, v110, v113, v116, v119, v122, v125, v128, v131, m22_, ha, Q_BK101, Q_BK102, Q_HB, Q_HO105, Q_HO108, Q_HO111, Q_HO114, Q_HO117, Q_HO120, Q_HO123, Q_HO126, Q_HO129, Q_HO132, Q_BK102_e23, Q_X22_, P1, P2, P3, P4, P5, P6⟩ hb_ hon hoff
        refine ⟨_, rfl, fun K hK => ?_⟩
        have e3 : a.tmps[3]? = some (.pointer (some ⟨gb101, 0, none⟩)) := by rw [ha]; exact (putSel_off rfl).trans rfl
        replace ha := qHs ha
        have BK101 := qHs Q_BK101
        have BK102 := qHs (Q_BK102 (hoff 23 (by kernel_rfl)))
        have HB := qHs Q_HB
        have hc0_ : w'.cell? ⟨gb101, 0, none⟩ = some (.string a0_0) := (blk_cell BK101.out 0).trans rfl
        have hc1_ : w'.cell? ⟨gb101, 1, none⟩ = some (.slice A0_1 l0_1.length c0_1) := (blk_cell BK101.out 1).trans rfl
        have hc2_ : w'.cell? ⟨gb101, 2, none⟩ = some (.slice A0_2 l0_2.length c0_2) := (blk_cell BK101.out 2).trans rfl
        have hc3_ : w'.cell? ⟨gb101, 3, none⟩ = some (.slice A0_3 l0_3.length c0_3) := (blk_cell BK101.out 3).trans rfl
        have hc4_ : w'.cell? ⟨gb101, 4, none⟩ = some (.slice A0_4 l0_4.length c0_4) := (blk_cell BK101.out 4).trans rfl
        have hc5_ : w'.cell? ⟨gb101, 5, none⟩ = some (.slice A0_5 l0_5.length c0_5) := (blk_cell BK101.out 5).trans rfl
        refine value_ (w1 := w') (v := .string a0_0) (by rfl) rfl ?_ ?_
        ·go_simp
         (try simp only [i64_w])
         try rfl
        refine hK.out _ _ ⟨v104, v107, v110, v113, v116, v119, v122, v125, v128, v131, m22_, (by rw [ha.out]; exact putSel_upk 0 hb_ rfl rfl rfl), Q_BK101, Q_BK102, Q_HB, Q_HO105, Q_HO108, Q_HO111, Q_HO114, Q_HO117, Q_HO120, Q_HO123, Q_HO126, Q_HO129, Q_HO132, fun h0_ => absurd ((hoff 23 (by kernel_rfl)).symm.trans h0_) (by decide), fun h0_ => absurd ((hoff 22 (by kernel_rfl)).symm.trans h0_) (by decide), P1, P2, P3, P4, P5, P6⟩
       refine steps_cons ?_ ?_
       ·rintro b a w' ⟨v104, v107, v110, v113, v116, v119, v122, v125, v128, v131, m22_, ha, Q_BK101, Q_BK102, Q_HB, Q_HO105, Q_HO108, Q_HO111, Q_HO114, Q_HO117, Q_HO120, Q_HO123, Q_HO126, Q_HO129, Q_HO132, Q_BK102_e23, Q_X22_, P1, P2, P3, P4, P5, P6⟩ hb_ hon hoff
        refine ⟨_, rfl, fun K hK => ?_⟩
        replace ha := qHs ha
        have BK101 := qHs Q_BK101
        have BK102 := qHs (Q_BK102 (hoff 23 (by kernel_rfl)))
        have HB := qHs Q_HB
        refine Kd.R_lit_step Kd.string _ 9 ?hg (N := 5) ?hd (xs := ([] : List ByteArray)) (inner := []) (ok := fun _ => True) (okp := fun _ => True) ?hr ?hp (fun _ hk => hk) trivial (Below.refl _ _) (Nat.le_refl _) (by simp) ?_; (case hd => rfl); (case hg => rfl); (case hr => first | (go_simp; done) | (go_simp; rfl)); (case hp => exact (Reps.none _ _))
        intro v104 w10 ho11 hb hg_ hnew_
        have N1 := fun (_ : up b 2 2 = true) (_ : b 5 = false) (h6_ : b 6 = true) (h9_ : b 9 = false) => own_apart' (Kd.R_base ho11) (Kd.R_lt (Q_HO111 h6_ h9_))
        clear hg_ hnew_
        (first | rw [← Ny103.out] at ho11 | (simp only [Int.reduceToNat] at ho11; rw [← Ny103.out] at ho11))
        have n0_ := qHs (Kd.R_lower ho11 (below_size (by repeat (first | (with_reducible first | exact HB.out | apply qHg | apply qHh | apply qHi | refine qHm ?_ GE101.out | refine qHm ?_ GE102.out) | exact HB.out))))
        have n1_ := qHs (qHo (g := gb101) (o := .cells #[.string a0_0, .slice A0_1 l0_1.length c0_1, .slice A0_2 l0_2.length c0_2, .slice A0_3 l0_3.length c0_3, .slice A0_4 l0_4.length c0_4, .slice A0_5 l0_5.length c0_5] 26 (0, 0)) (by (with_reducible repeat (first | refine qHd ?_ _ | refine qHe ?_ | refine qHf ?_ _)); exact BK101.out) hb)
        have n2_ := qHs (qHo (g := gb102) (o := .cells #[.string (⟨#[]⟩ : ByteArray), .slice none 0 0, .slice none 0 0, .slice none 0 0, .slice none 0 0, .slice none 0 0] 26 (0, 0)) (by (with_reducible repeat (first | refine qHd ?_ _ | refine qHe ?_ | refine qHf ?_ _)); exact BK102.out) hb)
        have n3_ := qHs (qHp (by repeat (first | (with_reducible first | exact HB.out | apply qHg | apply qHh | apply qHi | refine qHm ?_ GE101.out | refine qHm ?_ GE102.out) | exact HB.out)) hb)
        have z_HO111 := fun (h0_ : b 6 = true) (h1_ : b 9 = false) => (show Kd.R Kd.string 9 w10 w.heap.size (fun _ => True) v110 y109 from by first | exact (Kd.R_elder' (by (with_reducible repeat (first | apply qHa | apply qHb | apply qHc)); exact (Q_HO111 h0_ h1_)) (Kd.R_base ho11) hb) | exact Kd.R_mono (Kd.R_elder' (by (with_reducible repeat (first | apply qHa | apply qHb | apply qHc)); exact (Q_HO111 h0_ h1_)) (Kd.R_base ho11) hb) (fun _ h_ => by first | trivial | exact h_ | exact h_.1))
        have z_HO117 := fun (h0_ : b 10 = true) (h1_ : b 13 = false) => (show Kd.R (Kd.int .u32) 44 w10 w.heap.size (fun _ => True) v116 y115 from by first | exact (qHn (by (with_reducible repeat (first | apply qHa | apply qHb | apply qHc)); exact (Q_HO117 h0_ h1_)) hb) | exact Kd.R_mono (qHn (by (with_reducible repeat (first | apply qHa | apply qHb | apply qHc)); exact (Q_HO117 h0_ h1_)) hb) (fun _ h_ => by first | trivial | exact h_ | exact h_.1))
        have z_HO123 := fun (h0_ : b 14 = true) (h1_ : b 17 = false) => (show Kd.R (Kd.int .u32) 44 w10 w.heap.size (fun _ => True) v122 y121 from by first | exact (qHn (by (with_reducible repeat (first | apply qHa | apply qHb | apply qHc)); exact (Q_HO123 h0_ h1_)) hb) | exact Kd.R_mono (qHn (by (with_reducible repeat (first | apply qHa | apply qHb | apply qHc)); exact (Q_HO123 h0_ h1_)) hb) (fun _ h_ => by first | trivial | exact h_ | exact h_.1))
        have z_HO129 := fun (h0_ : b 18 = true) (h1_ : b 21 = false) => (show Kd.R k43 43 w10 w.heap.size (fun _ => True) v128 y127 from by first | exact (qHn (by (with_reducible repeat (first | apply qHa | apply qHb | apply qHc)); exact (Q_HO129 h0_ h1_)) hb) | exact Kd.R_mono (qHn (by (with_reducible repeat (first | apply qHa | apply qHb | apply qHc)); exact (Q_HO129 h0_ h1_)) hb) (fun _ h_ => by first | trivial | exact h_ | exact h_.1))
        clear BK101
        clear BK102
        clear HB
        have HO105 := n0_
        have BK101 := n1_
        have BK102 := n2_
        have HB := n3_
        clear n0_ n1_ n2_ n3_
        clear hb ho11
        refine hK.out _ _ ⟨v104, v107, v110, v113, v116, v119, v122, v125, v128, v131, m22_, (by rw [ha.out]; exact putSel_upk 1 hb_ rfl rfl rfl), (by (with_reducible repeat (first | refine qHd ?_ _ | refine qHe ?_ | refine qHf ?_ _)); exact BK101.out), fun _ => (by (with_reducible repeat (first | refine qHd ?_ _ | refine qHe ?_ | refine qHf ?_ _)); exact BK102.out), (by repeat (first | (with_reducible first | exact HB.out | apply qHg | apply qHh | apply qHi | refine qHm ?_ GE101.out | refine qHm ?_ GE102.out) | exact HB.out)), fun _ _ => (by (with_reducible repeat (first | apply qHa | apply qHb | apply qHc)); exact HO105.out), fun h0_ => absurd ((hoff 5 (by kernel_rfl)).symm.trans h0_) (by decide), z_HO111, fun h0_ => absurd ((hoff 9 (by kernel_rfl)).symm.trans h0_) (by decide), z_HO117, fun h0_ => absurd ((hoff 13 (by kernel_rfl)).symm.trans h0_) (by decide), z_HO123, fun h0_ => absurd ((hoff 17 (by kernel_rfl)).symm.trans h0_) (by decide), z_HO129, fun h0_ => absurd ((hoff 21 (by kernel_rfl)).symm.trans h0_) (by decide), fun h0_ => absurd ((hoff 23 (by kernel_rfl)).symm.trans h0_) (by decide), fun h0_ => absurd ((hoff 22 (by kernel_rfl)).symm.trans h0_) (by decide), N1, fun h0_ _ _ => absurd ((hoff 5 (by kernel_rfl)).symm.trans h0_) (by decide), fun h0_ => absurd ((hoff 9 (by kernel_rfl)).symm.trans h0_) (by decide), P4, P5, P6⟩
       refine steps_cons ?_ ?_
       ·rintro b a w' ⟨v104, v107, v110, v113, v116, v119, v122, v125, v128, v131, m22_, ha, Q_BK101, Q_BK102, Q_HB, Q_HO105, Q_HO108, Q_HO111, Q_HO114, Q_HO117, Q_HO120, Q_HO123, Q_HO126, Q_HO129, Q_HO132, Q_BK102_e23, Q_X22_, P1, P2, P3, P4, P5, P6⟩ hb_ hon hoff
        refine ⟨_, rfl, fun K hK => ?_⟩
        have e6 : a.tmps[6]? = some (.pointer (some ⟨gb101, 1, none⟩)) := by rw [ha]; exact (putSel_off rfl).trans rfl
        replace ha := qHs ha
        have BK101 := qHs Q_BK101
        have BK102 := qHs (Q_BK102 (hoff 23 (by kernel_rfl)))
        have HB := qHs Q_HB
        have hc0_ : w'.cell? ⟨gb101, 0, none⟩ = some (.string a0_0) := (blk_cell BK101.out 0).trans rfl
        have hc1_ : w'.cell? ⟨gb101, 1, none⟩ = some (.slice A0_1 l0_1.length c0_1) := (blk_cell BK101.out 1).trans rfl
        have hc2_ : w'.cell? ⟨gb101, 2, none⟩ = some (.slice A0_2 l0_2.length c0_2) := (blk_cell BK101.out 2).trans rfl
        have hc3_ : w'.cell? ⟨gb101, 3, none⟩ = some (.slice A0_3 l0_3.length c0_3) := (blk_cell BK101.out 3).trans rfl
        have hc4_ : w'.cell? ⟨gb101, 4, none⟩ = some (.slice A0_4 l0_4.length c0_4) := (blk_cell BK101.out 4).trans rfl
        have hc5_ : w'.cell? ⟨gb101, 5, none⟩ = some (.slice A0_5 l0_5.length c0_5) := (blk_cell BK101.out 5).trans rfl
        refine value_ (w1 := w') (v := .slice A0_1 l0_1.length c0_1) (by rfl) rfl ?_ ?_
        ·go_simp
         (try simp only [i64_w])
         try rfl
        refine hK.out _ _ ⟨v104, v107, v110, v113, v116, v119, v122, v125, v128, v131, m22_, (by rw [ha.out]; exact putSel_upk 2 hb_ rfl rfl rfl), Q_BK101, Q_BK102, Q_HB, Q_HO105, fun h0_ => absurd ((hoff 5 (by kernel_rfl)).symm.trans h0_) (by decide), Q_HO111, fun h0_ => absurd ((hoff 9 (by kernel_rfl)).symm.trans h0_) (by decide), Q_HO117, fun h0_ => absurd ((hoff 13 (by kernel_rfl)).symm.trans h0_) (by decide), Q_HO123, fun h0_ => absurd ((hoff 17 (by kernel_rfl)).symm.trans h0_) (by decide), Q_HO129, fun h0_ => absurd ((hoff 21 (by kernel_rfl)).symm.trans h0_) (by decide), fun h0_ => absurd ((hoff 23 (by kernel_rfl)).symm.trans h0_) (by decide), fun h0_ => absurd ((hoff 22 (by kernel_rfl)).symm.trans h0_) (by decide), P1, P2, P3, P4, P5, P6⟩
       refine steps_cons ?_ ?_
       ·rintro b a w' ⟨v104, v107, v110, v113, v116, v119, v122, v125, v128, v131, m22_, ha, Q_BK101, Q_BK102, Q_HB, Q_HO105, Q_HO108, Q_HO111, Q_HO114, Q_HO117, Q_HO120, Q_HO123, Q_HO126, Q_HO129, Q_HO132, Q_BK102_e23, Q_X22_, P1, P2, P3, P4, P5, P6⟩ hb_ hon hoff
        refine ⟨_, rfl, fun K hK => ?_⟩
        have e5 : a.tmps[5]? = some (v104) := by rw [ha]; exact putSel_on (e := (2, 5, v104)) 1 rfl rfl (hon 2 (by kernel_rfl)) rfl
        have e7 : a.tmps[7]? = some (.slice A0_1 l0_1.length c0_1) := by rw [ha]; exact putSel_on (e := (4, 7, .slice A0_1 l0_1.length c0_1)) 2 rfl rfl (hon 4 (by kernel_rfl)) rfl
        replace ha := qHs ha
        have BK101 := qHs Q_BK101
        have BK102 := qHs (Q_BK102 (hoff 23 (by kernel_rfl)))
        have HB := qHs Q_HB
        have HO105 := qHs (Q_HO105 (hon 2 (by kernel_rfl)) hb_)
        refine Kd.R_append_rows_step Kd.string (w0 := w) w.heap.size (by rfl) (.tmp 5) (.tmp 7) 22 9 (.string ⟨#[]⟩) 16 rfl Tryd.underlying22 info9 rfl (by decide) (by omega) v104 y103 l0_1 _ _ _ (fun _ => True) (fun _ => False) (ev_tmp e5) (ev_tmp e7) ?aO ?aR (fun _ _ h => h) (fun _ h => h.elim) ?aF ?aB ?aS ?aL ?_
        (case aR => repeat (first | exact (qHq HR0_1.out HB.out) | (with_reducible refine qHj ?_ _) | (with_reducible refine qHk ?_ _) | (with_reducible refine qHl ?_)))
        (case aB => exact (by repeat (first | (with_reducible first | exact HB.out | apply qHg | apply qHh | apply qHi | refine qHm ?_ GE101.out | refine qHm ?_ GE102.out) | exact HB.out)))
        (case aF => exact (fun _ _ => trivial))
        (case aO => exact (by (with_reducible repeat (first | apply qHa | apply qHb | apply qHc)); exact HO105.out))
        (case aS => exact (below_size (by repeat (first | (with_reducible first | exact HB.out | apply qHg | apply qHh | apply qHi | refine qHm ?_ GE101.out | refine qHm ?_ GE102.out) | exact HB.out))))
        (case aL => have := LMc2.out; omega)
        intro v107 w13 ho hb hg hat
        have N2 := fun (_ : up b 5 5 = true) (h6_ : b 6 = true) (h9_ : b 9 = false) => apart_after (P1 (hon 2 (by kernel_rfl)) hb_ h6_ h9_) hat (Kd.R_lt (Q_HO111 h6_ h9_))
        rw [← Ny106.out] at ho
        have n0_ := qHs (blk_grown (g := gb101) (o := .cells #[.string a0_0, .slice A0_1 l0_1.length c0_1, .slice A0_2 l0_2.length c0_2, .slice A0_3 l0_3.length c0_3, .slice A0_4 l0_4.length c0_4, .slice A0_5 l0_5.length c0_5] 26 (0, 0)) (by (with_reducible repeat (first | refine qHd ?_ _ | refine qHe ?_ | refine qHf ?_ _)); exact BK101.out) hg (Kd.R_ne HO105.out BK101.out (by decide)))
        have n1_ := qHs (blk_grown (g := gb102) (o := .cells #[.string (⟨#[]⟩ : ByteArray), .slice none 0 0, .slice none 0 0, .slice none 0 0, .slice none 0 0, .slice none 0 0] 26 (0, 0)) (by (with_reducible repeat (first | refine qHd ?_ _ | refine qHe ?_ | refine qHf ?_ _)); exact BK102.out) hg (Kd.R_ne HO105.out BK102.out (by decide)))
        have n2_ := qHs (hb)
        have n3_ := qHs (ho)
        have z_HO111 := fun (h0_ : b 6 = true) (h1_ : b 9 = false) => (show Kd.R Kd.string 9 w13 w.heap.size (fun _ => True) v110 y109 from by first | exact (Kd.R_after (ok := (fun _ => True)) (by (with_reducible repeat (first | apply qHa | apply qHb | apply qHc)); exact Kd.R_flat (fun h => h) (Q_HO111 h0_ h1_) (fun k hk _ => ⟨trivial, atom_of' (P1 (hon 2 (by kernel_rfl)) hb_ h0_ h1_) hk⟩)) hg hat) | exact Kd.R_mono (Kd.R_after (ok := (fun _ => True)) (by (with_reducible repeat (first | apply qHa | apply qHb | apply qHc)); exact Kd.R_flat (fun h => h) (Q_HO111 h0_ h1_) (fun k hk _ => ⟨trivial, atom_of' (P1 (hon 2 (by kernel_rfl)) hb_ h0_ h1_) hk⟩)) hg hat) (fun _ h_ => by first | trivial | exact h_ | exact h_.1))
        have z_HO117 := fun (h0_ : b 10 = true) (h1_ : b 13 = false) => (show Kd.R (Kd.int .u32) 44 w13 w.heap.size (fun _ => True) v116 y115 from by first | exact (Kd.R_over' (by (with_reducible repeat (first | apply qHa | apply qHb | apply qHc)); exact (Q_HO117 h0_ h1_)) (Kd.R_typed (by (with_reducible repeat (first | apply qHa | apply qHb | apply qHc)); exact HO105.out)) (by decide) hg) | exact Kd.R_mono (Kd.R_over' (by (with_reducible repeat (first | apply qHa | apply qHb | apply qHc)); exact (Q_HO117 h0_ h1_)) (Kd.R_typed (by (with_reducible repeat (first | apply qHa | apply qHb | apply qHc)); exact HO105.out)) (by decide) hg) (fun _ h_ => by first | trivial | exact h_ | exact h_.1))
        have z_HO123 := fun (h0_ : b 14 = true) (h1_ : b 17 = false) => (show Kd.R (Kd.int .u32) 44 w13 w.heap.size (fun _ => True) v122 y121 from by first | exact (Kd.R_over' (by (with_reducible repeat (first | apply qHa | apply qHb | apply qHc)); exact (Q_HO123 h0_ h1_)) (Kd.R_typed (by (with_reducible repeat (first | apply qHa | apply qHb | apply qHc)); exact HO105.out)) (by decide) hg) | exact Kd.R_mono (Kd.R_over' (by (with_reducible repeat (first | apply qHa | apply qHb | apply qHc)); exact (Q_HO123 h0_ h1_)) (Kd.R_typed (by (with_reducible repeat (first | apply qHa | apply qHb | apply qHc)); exact HO105.out)) (by decide) hg) (fun _ h_ => by first | trivial | exact h_ | exact h_.1))
        have z_HO129 := fun (h0_ : b 18 = true) (h1_ : b 21 = false) => (show Kd.R k43 43 w13 w.heap.size (fun _ => True) v128 y127 from by first | exact (Kd.R_over' (by (with_reducible repeat (first | apply qHa | apply qHb | apply qHc)); exact (Q_HO129 h0_ h1_)) (Kd.R_typed (by (with_reducible repeat (first | apply qHa | apply qHb | apply qHc)); exact HO105.out)) (by decide) hg) | exact Kd.R_mono (Kd.R_over' (by (with_reducible repeat (first | apply qHa | apply qHb | apply qHc)); exact (Q_HO129 h0_ h1_)) (Kd.R_typed (by (with_reducible repeat (first | apply qHa | apply qHb | apply qHc)); exact HO105.out)) (by decide) hg) (fun _ h_ => by first | trivial | exact h_ | exact h_.1))
        clear BK101
        clear BK102
        clear HB
        clear HO105
        have BK101 := n0_
        have BK102 := n1_
        have HB := n2_
        have HO108 := n3_
        clear n0_ n1_ n2_ n3_
        clear ho hb hg hat
        refine hK.out _ _ ⟨v104, v107, v110, v113, v116, v119, v122, v125, v128, v131, m22_, (by rw [ha.out]; exact putSel_upk 3 hb_ rfl rfl rfl), (by (with_reducible repeat (first | refine qHd ?_ _ | refine qHe ?_ | refine qHf ?_ _)); exact BK101.out), fun _ => (by (with_reducible repeat (first | refine qHd ?_ _ | refine qHe ?_ | refine qHf ?_ _)); exact BK102.out), (by repeat (first | (with_reducible first | exact HB.out | apply qHg | apply qHh | apply qHi | refine qHm ?_ GE101.out | refine qHm ?_ GE102.out) | exact HB.out)), fun _ h1_ => absurd ((up_self b 5).symm.trans h1_) (by decide), fun _ => (by (with_reducible repeat (first | apply qHa | apply qHb | apply qHc)); exact HO108.out), z_HO111, fun h0_ => absurd ((hoff 9 (by kernel_rfl)).symm.trans h0_) (by decide), z_HO117, fun h0_ => absurd ((hoff 13 (by kernel_rfl)).symm.trans h0_) (by decide), z_HO123, fun h0_ => absurd ((hoff 17 (by kernel_rfl)).symm.trans h0_) (by decide), z_HO129, fun h0_ => absurd ((hoff 21 (by kernel_rfl)).symm.trans h0_) (by decide), fun h0_ => absurd ((hoff 23 (by kernel_rfl)).symm.trans h0_) (by decide), fun h0_ => absurd ((hoff 22 (by kernel_rfl)).symm.trans h0_) (by decide), fun _ h0_ _ _ => absurd ((up_self b 5).symm.trans h0_) (by decide), N2, fun h0_ => absurd ((hoff 9 (by kernel_rfl)).symm.trans h0_) (by decide), P4, P5, P6⟩
       refine steps_cons ?_ ?_
       ·rintro b a w' ⟨v104, v107, v110, v113, v116, v119, v122, v125, v128, v131, m22_, ha, Q_BK101, Q_BK102, Q_HB, Q_HO105, Q_HO108, Q_HO111, Q_HO114, Q_HO117, Q_HO120, Q_HO123, Q_HO126, Q_HO129, Q_HO132, Q_BK102_e23, Q_X22_, P1, P2, P3, P4, P5, P6⟩ hb_ hon hoff
        refine ⟨_, rfl, fun K hK => ?_⟩
        replace ha := qHs ha
        have BK101 := qHs Q_BK101
        have BK102 := qHs (Q_BK102 (hoff 23 (by kernel_rfl)))
        have HB := qHs Q_HB
        refine Kd.R_lit_step Kd.string _ 9 ?hg (N := 9) ?hd (xs := ([] : List ByteArray)) (inner := []) (ok := fun _ => True) (okp := fun _ => True) ?hr ?hp (fun _ hk => hk) trivial (Below.refl _ _) (Nat.le_refl _) (by simp) ?_; (case hd => rfl); (case hg => rfl); (case hr => first | (go_simp; done) | (go_simp; rfl)); (case hp => exact (Reps.none _ _))
        intro v110 w10 ho11 hb hg_ hnew_
        have N1 := fun (h2_ : b 2 = true) (h5_ : b 5 = false) (_ : up b 6 6 = true) (_ : b 9 = false) => own_apart (Kd.R_lt (Q_HO105 h2_ h5_)) (Kd.R_base ho11)
        have N2 := fun (h5_ : b 5 = true) (_ : up b 6 6 = true) (_ : b 9 = false) => own_apart (Kd.R_lt (Q_HO108 h5_)) (Kd.R_base ho11)
        clear hg_ hnew_
        (first | rw [← Ny109.out] at ho11 | (simp only [Int.reduceToNat] at ho11; rw [← Ny109.out] at ho11))
        have n0_ := qHs (Kd.R_lower ho11 (below_size (by repeat (first | (with_reducible first | exact HB.out | apply qHg | apply qHh | apply qHi | refine qHm ?_ GE101.out | refine qHm ?_ GE102.out) | exact HB.out))))
        have n1_ := qHs (qHo (g := gb101) (o := .cells #[.string a0_0, .slice A0_1 l0_1.length c0_1, .slice A0_2 l0_2.length c0_2, .slice A0_3 l0_3.length c0_3, .slice A0_4 l0_4.length c0_4, .slice A0_5 l0_5.length c0_5] 26 (0, 0)) (by (with_reducible repeat (first | refine qHd ?_ _ | refine qHe ?_ | refine qHf ?_ _)); exact BK101.out) hb)
        have n2_ := qHs (qHo (g := gb102) (o := .cells #[.string (⟨#[]⟩ : ByteArray), .slice none 0 0, .slice none 0 0, .slice none 0 0, .slice none 0 0, .slice none 0 0] 26 (0, 0)) (by (with_reducible repeat (first | refine qHd ?_ _ | refine qHe ?_ | refine qHf ?_ _)); exact BK102.out) hb)
        have n3_ := qHs (qHp (by repeat (first | (with_reducible first | exact HB.out | apply qHg | apply qHh | apply qHi | refine qHm ?_ GE101.out | refine qHm ?_ GE102.out) | exact HB.out)) hb)
        have z_HO105 := fun (h0_ : b 2 = true) (h1_ : b 5 = false) => (show Kd.R Kd.string 9 w10 w.heap.size (fun _ => True) v104 y103 from by first | exact (Kd.R_elder' (by (with_reducible repeat (first | apply qHa | apply qHb | apply qHc)); exact (Q_HO105 h0_ h1_)) (Kd.R_base ho11) hb) | exact Kd.R_mono (Kd.R_elder' (by (with_reducible repeat (first | apply qHa | apply qHb | apply qHc)); exact (Q_HO105 h0_ h1_)) (Kd.R_base ho11) hb) (fun _ h_ => by first | trivial | exact h_ | exact h_.1))
        have z_HO108 := fun (h0_ : b 5 = true) => (show Kd.R Kd.string 9 w10 w.heap.size (fun _ => True) v107 y106 from by first | exact (Kd.R_elder' (by (with_reducible repeat (first | apply qHa | apply qHb | apply qHc)); exact (Q_HO108 h0_)) (Kd.R_base ho11) hb) | exact Kd.R_mono (Kd.R_elder' (by (with_reducible repeat (first | apply qHa | apply qHb | apply qHc)); exact (Q_HO108 h0_)) (Kd.R_base ho11) hb) (fun _ h_ => by first | trivial | exact h_ | exact h_.1))
        have z_HO117 := fun (h0_ : b 10 = true) (h1_ : b 13 = false) => (show Kd.R (Kd.int .u32) 44 w10 w.heap.size (fun _ => True) v116 y115 from by first | exact (qHn (by (with_reducible repeat (first | apply qHa | apply qHb | apply qHc)); exact (Q_HO117 h0_ h1_)) hb) | exact Kd.R_mono (qHn (by (with_reducible repeat (first | apply qHa | apply qHb | apply qHc)); exact (Q_HO117 h0_ h1_)) hb) (fun _ h_ => by first | trivial | exact h_ | exact h_.1))
        have z_HO123 := fun (h0_ : b 14 = true) (h1_ : b 17 = false) => (show Kd.R (Kd.int .u32) 44 w10 w.heap.size (fun _ => True) v122 y121 from by first | exact (qHn (by (with_reducible repeat (first | apply qHa | apply qHb | apply qHc)); exact (Q_HO123 h0_ h1_)) hb) | exact Kd.R_mono (qHn (by (with_reducible repeat (first | apply qHa | apply qHb | apply qHc)); exact (Q_HO123 h0_ h1_)) hb) (fun _ h_ => by first | trivial | exact h_ | exact h_.1))
        have z_HO129 := fun (h0_ : b 18 = true) (h1_ : b 21 = false) => (show Kd.R k43 43 w10 w.heap.size (fun _ => True) v128 y127 from by first | exact (qHn (by (with_reducible repeat (first | apply qHa | apply qHb | apply qHc)); exact (Q_HO129 h0_ h1_)) hb) | exact Kd.R_mono (qHn (by (with_reducible repeat (first | apply qHa | apply qHb | apply qHc)); exact (Q_HO129 h0_ h1_)) hb) (fun _ h_ => by first | trivial | exact h_ | exact h_.1))
        clear BK101
        clear BK102
        clear HB
        have HO111 := n0_
        have BK101 := n1_
        have BK102 := n2_
        have HB := n3_
        clear n0_ n1_ n2_ n3_
        clear hb ho11
        refine hK.out _ _ ⟨v104, v107, v110, v113, v116, v119, v122, v125, v128, v131, m22_, (by rw [ha.out]; exact putSel_upk 4 hb_ rfl rfl rfl), (by (with_reducible repeat (first | refine qHd ?_ _ | refine qHe ?_ | refine qHf ?_ _)); exact BK101.out), fun _ => (by (with_reducible repeat (first | refine qHd ?_ _ | refine qHe ?_ | refine qHf ?_ _)); exact BK102.out), (by repeat (first | (with_reducible first | exact HB.out | apply qHg | apply qHh | apply qHi | refine qHm ?_ GE101.out | refine qHm ?_ GE102.out) | exact HB.out)), z_HO105, z_HO108, fun _ _ => (by (with_reducible repeat (first | apply qHa | apply qHb | apply qHc)); exact HO111.out), fun h0_ => absurd ((hoff 9 (by kernel_rfl)).symm.trans h0_) (by decide), z_HO117, fun h0_ => absurd ((hoff 13 (by kernel_rfl)).symm.trans h0_) (by decide), z_HO123, fun h0_ => absurd ((hoff 17 (by kernel_rfl)).symm.trans h0_) (by decide), z_HO129, fun h0_ => absurd ((hoff 21 (by kernel_rfl)).symm.trans h0_) (by decide), fun h0_ => absurd ((hoff 23 (by kernel_rfl)).symm.trans h0_) (by decide), fun h0_ => absurd ((hoff 22 (by kernel_rfl)).symm.trans h0_) (by decide), N1, N2, fun h0_ => absurd ((hoff 9 (by kernel_rfl)).symm.trans h0_) (by decide), P4, P5, P6⟩
       refine steps_cons ?_ ?_
       ·rintro b a w' ⟨v104, v107, v110, v113, v116, v119, v122, v125, v128, v131, m22_, ha, Q_BK101, Q_BK102, Q_HB, Q_HO105, Q_HO108, Q_HO111, Q_HO114, Q_HO117, Q_HO120, Q_HO123, Q_HO126, Q_HO129, Q_HO132, Q_BK102_e23, Q_X22_, P1, P2, P3, P4, P5, P6⟩ hb_ hon hoff
        refine ⟨_, rfl, fun K hK => ?_⟩
        have e10 : a.tmps[10]? = some (.pointer (some ⟨gb101, 2, none⟩)) := by rw [ha]; exact (putSel_off rfl).trans rfl
        replace ha := qHs ha
        have BK101 := qHs Q_BK101
        have BK102 := qHs (Q_BK102 (hoff 23 (by kernel_rfl)))
        have HB := qHs Q_HB
        have hc0_ : w'.cell? ⟨gb101, 0, none⟩ = some (.string a0_0) := (blk_cell BK101.out 0).trans rfl
        have hc1_ : w'.cell? ⟨gb101, 1, none⟩ = some (.slice A0_1 l0_1.length c0_1) := (blk_cell BK101.out 1).trans rfl
        have hc2_ : w'.cell? ⟨gb101, 2, none⟩ = some (.slice A0_2 l0_2.length c0_2) := (blk_cell BK101.out 2).trans rfl
        have hc3_ : w'.cell? ⟨gb101, 3, none⟩ = some (.slice A0_3 l0_3.length c0_3) := (blk_cell BK101.out 3).trans rfl
        have hc4_ : w'.cell? ⟨gb101, 4, none⟩ = some (.slice A0_4 l0_4.length c0_4) := (blk_cell BK101.out 4).trans rfl
        have hc5_ : w'.cell? ⟨gb101, 5, none⟩ = some (.slice A0_5 l0_5.length c0_5) := (blk_cell BK101.out 5).trans rfl
        refine value_ (w1 := w') (v := .slice A0_2 l0_2.length c0_2) (by rfl) rfl ?_ ?_
        ·go_simp
         (try simp only [i64_w])
         try rfl
        refine hK.out _ _ ⟨v104, v107, v110, v113, v116, v119, v122, v125, v128, v131, m22_, (by rw [ha.out]; exact putSel_upk 5 hb_ rfl rfl rfl), Q_BK101, Q_BK102, Q_HB, Q_HO105, Q_HO108, Q_HO111, fun h0_ => absurd ((hoff 9 (by kernel_rfl)).symm.trans h0_) (by decide), Q_HO117, fun h0_ => absurd ((hoff 13 (by kernel_rfl)).symm.trans h0_) (by decide), Q_HO123, fun h0_ => absurd ((hoff 17 (by kernel_rfl)).symm.trans h0_) (by decide), Q_HO129, fun h0_ => absurd ((hoff 21 (by kernel_rfl)).symm.trans h0_) (by decide), fun h0_ => absurd ((hoff 23 (by kernel_rfl)).symm.trans h0_) (by decide), fun h0_ => absurd ((hoff 22 (by kernel_rfl)).symm.trans h0_) (by decide), P1, P2, P3, P4, P5, P6⟩
       refine steps_cons ?_ ?_
       ·rintro b a w' ⟨v104, v107, v110, v113, v116, v119, v122, v125, v128, v131, m22_, ha, Q_BK101, Q_BK102, Q_HB, Q_HO105, Q_HO108, Q_HO111, Q_HO114, Q_HO117, Q_HO120, Q_HO123, Q_HO126, Q_HO129, Q_HO132, Q_BK102_e23, Q_X22_, P1, P2, P3, P4, P5, P6⟩ hb_ hon hoff
        refine ⟨_, rfl, fun K hK => ?_⟩
        have e9 : a.tmps[9]? = some (v110) := by rw [ha]; exact putSel_on (e := (6, 9, v110)) 4 rfl rfl (hon 6 (by kernel_rfl)) rfl
        have e11 : a.tmps[11]? = some (.slice A0_2 l0_2.length c0_2) := by rw [ha]; exact putSel_on (e := (8, 11, .slice A0_2 l0_2.length c0_2)) 5 rfl rfl (hon 8 (by kernel_rfl)) rfl
        replace ha := qHs ha
        have BK101 := qHs Q_BK101
        have BK102 := qHs (Q_BK102 (hoff 23 (by kernel_rfl)))
        have HB := qHs Q_HB
        have HO108 := qHs (Q_HO108 (hon 5 (by kernel_rfl)))
        have HO111 := qHs (Q_HO111 (hon 6 (by kernel_rfl)) hb_)
        refine Kd.R_append_rows_step Kd.string (w0 := w) w.heap.size (by rfl) (.tmp 9) (.tmp 11) 22 9 (.string ⟨#[]⟩) 16 rfl Tryd.underlying22 info9 rfl (by decide) (by omega) v110 y109 l0_2 _ _ _ (fun _ => True) (fun _ => False) (ev_tmp e9) (ev_tmp e11) ?aO ?aR (fun _ _ h => h) (fun _ h => h.elim) ?aF ?aB ?aS ?aL ?_
        (case aR => repeat (first | exact (qHq HR0_2.out HB.out) | (with_reducible refine qHj ?_ _) | (with_reducible refine qHk ?_ _) | (with_reducible refine qHl ?_)))
        (case aB => exact (by repeat (first | (with_reducible first | exact HB.out | apply qHg | apply qHh | apply qHi | refine qHm ?_ GE101.out | refine qHm ?_ GE102.out) | exact HB.out)))
        (case aF => exact (fun _ _ => trivial))
        (case aO => exact (by (with_reducible repeat (first | apply qHa | apply qHb | apply qHc)); exact HO111.out))
        (case aS => exact (below_size (by repeat (first | (with_reducible first | exact HB.out | apply qHg | apply qHh | apply qHi | refine qHm ?_ GE101.out | refine qHm ?_ GE102.out) | exact HB.out))))
        (case aL => have := LMc3.out; omega)
        intro v113 w16 ho hb hg hat
        have N3 := fun (_ : up b 9 9 = true) => apart_after' (P2 (hon 5 (by kernel_rfl)) (hon 6 (by kernel_rfl)) hb_) hat (Kd.R_lt (Q_HO108 (hon 5 (by kernel_rfl))))
        rw [← Ny112.out] at ho
        have n0_ := qHs (blk_grown (g := gb101) (o := .cells #[.string a0_0, .slice A0_1 l0_1.length c0_1, .slice A0_2 l0_2.length c0_2, .slice A0_3 l0_3.length c0_3, .slice A0_4 l0_4.length c0_4, .slice A0_5 l0_5.length c0_5] 26 (0, 0)) (by (with_reducible repeat (first | refine qHd ?_ _ | refine qHe ?_ | refine qHf ?_ _)); exact BK101.out) hg (Kd.R_ne HO111.out BK101.out (by decide)))
        have n1_ := qHs (blk_grown (g := gb102) (o := .cells #[.string (⟨#[]⟩ : ByteArray), .slice none 0 0, .slice none 0 0, .slice none 0 0, .slice none 0 0, .slice none 0 0] 26 (0, 0)) (by (with_reducible repeat (first | refine qHd ?_ _ | refine qHe ?_ | refine qHf ?_ _)); exact BK102.out) hg (Kd.R_ne HO111.out BK102.out (by decide)))
        have n2_ := qHs (Kd.R_after (ok := (fun _ => True)) (by (with_reducible repeat (first | apply qHa | apply qHb | apply qHc)); exact Kd.R_flat (fun h => h) HO108.out (fun k hk _ => ⟨trivial, atom_of (P2 (hon 5 (by kernel_rfl)) (hon 6 (by kernel_rfl)) hb_) hk⟩)) hg hat)
        have n3_ := qHs (hb)
        have n4_ := qHs (ho)
        have z_HO117 := fun (h0_ : b 10 = true) (h1_ : b 13 = false) => (show Kd.R (Kd.int .u32) 44 w16 w.heap.size (fun _ => True) v116 y115 from by first | exact (Kd.R_over' (by (with_reducible repeat (first | apply qHa | apply qHb | apply qHc)); exact (Q_HO117 h0_ h1_)) (Kd.R_typed (by (with_reducible repeat (first | apply qHa | apply qHb | apply qHc)); exact HO111.out)) (by decide) hg) | exact Kd.R_mono (Kd.R_over' (by (with_reducible repeat (first | apply qHa | apply qHb | apply qHc)); exact (Q_HO117 h0_ h1_)) (Kd.R_typed (by (with_reducible repeat (first | apply qHa | apply qHb | apply qHc)); exact HO111.out)) (by decide) hg) (fun _ h_ => by first | trivial | exact h_ | exact h_.1))
        have z_HO123 := fun (h0_ : b 14 = true) (h1_ : b 17 = false) => (show Kd.R (Kd.int .u32) 44 w16 w.heap.size (fun _ => True) v122 y121 from by first | exact (Kd.R_over' (by (with_reducible repeat (first | apply qHa | apply qHb | apply qHc)); exact (Q_HO123 h0_ h1_)) (Kd.R_typed (by (with_reducible repeat (first | apply qHa | apply qHb | apply qHc)); exact HO111.out)) (by decide) hg) | exact Kd.R_mono (Kd.R_over' (by (with_reducible repeat (first | apply qHa | apply qHb | apply qHc)); exact (Q_HO123 h0_ h1_)) (Kd.R_typed (by (with_reducible repeat (first | apply qHa | apply qHb | apply qHc)); exact HO111.out)) (by decide) hg) (fun _ h_ => by first | trivial | exact h_ | exact h_.1))
        have z_HO129 := fun (h0_ : b 18 = true) (h1_ : b 21 = false) => (show Kd.R k43 43 w16 w.heap.size (fun _ => True) v128 y127 from by first | exact (Kd.R_over' (by (with_reducible repeat (first | apply qHa | apply qHb | apply qHc)); exact (Q_HO129 h0_ h1_)) (Kd.R_typed (by (with_reducible repeat (first | apply qHa | apply qHb | apply qHc)); exact HO111.out)) (by decide) hg) | exact Kd.R_mono (Kd.R_over' (by (with_reducible repeat (first | apply qHa | apply qHb | apply qHc)); exact (Q_HO129 h0_ h1_)) (Kd.R_typed (by (with_reducible repeat (first | apply qHa | apply qHb | apply qHc)); exact HO111.out)) (by decide) hg) (fun _ h_ => by first | trivial | exact h_ | exact h_.1))
        clear BK101
        clear BK102
        clear HO108
        clear HB
        clear HO111
        have BK101 := n0_
        have BK102 := n1_
        have HO108 := n2_
        have HB := n3_
        have HO114 := n4_
        clear n0_ n1_ n2_ n3_ n4_
        clear ho hb hg hat
        refine hK.out _ _ ⟨v104, v107, v110, v113, v116, v119, v122, v125, v128, v131, m22_, (by rw [ha.out]; exact putSel_upk 6 hb_ rfl rfl rfl), (by (with_reducible repeat (first | refine qHd ?_ _ | refine qHe ?_ | refine qHf ?_ _)); exact BK101.out), fun _ => (by (with_reducible repeat (first | refine qHd ?_ _ | refine qHe ?_ | refine qHf ?_ _)); exact BK102.out), (by repeat (first | (with_reducible first | exact HB.out | apply qHg | apply qHh | apply qHi | refine qHm ?_ GE101.out | refine qHm ?_ GE102.out) | exact HB.out)), fun _ h1_ => absurd ((hon 5 (by kernel_rfl)).symm.trans h1_) (by decide), fun _ => (by (with_reducible repeat (first | apply qHa | apply qHb | apply qHc)); exact Kd.R_mono HO108.out (fun _ _ => trivial)), fun _ h1_ => absurd ((up_self b 9).symm.trans h1_) (by decide), fun _ => (by (with_reducible repeat (first | apply qHa | apply qHb | apply qHc)); exact HO114.out), z_HO117, fun h0_ => absurd ((hoff 13 (by kernel_rfl)).symm.trans h0_) (by decide), z_HO123, fun h0_ => absurd ((hoff 17 (by kernel_rfl)).symm.trans h0_) (by decide), z_HO129, fun h0_ => absurd ((hoff 21 (by kernel_rfl)).symm.trans h0_) (by decide), fun h0_ => absurd ((hoff 23 (by kernel_rfl)).symm.trans h0_) (by decide), fun h0_ => absurd ((hoff 22 (by kernel_rfl)).symm.trans h0_) (by decide), fun _ h0_ _ _ => absurd ((hon 5 (by kernel_rfl)).symm.trans h0_) (by decide), fun _ _ h0_ => absurd ((up_self b 9).symm.trans h0_) (by decide), N3, P4, P5, P6⟩
       refine steps_cons ?_ ?_
       ·rintro b a w' ⟨v104, v107, v110, v113, v116, v119, v122, v125, v128, v131, m22_, ha, Q_BK101, Q_BK102, Q_HB, Q_HO105, Q_HO108, Q_HO111, Q_HO114, Q_HO117, Q_HO120, Q_HO123, Q_HO126, Q_HO129, Q_HO132, Q_BK102_e23, Q_X22_, P1, P2, P3, P4, P5, P6⟩ hb_ hon hoff
        refine ⟨_, rfl, fun K hK => ?_⟩
        replace ha := qHs ha
        have BK101 := qHs Q_BK101
        have BK102 := qHs (Q_BK102 (hoff 23 (by kernel_rfl)))
        have HB := qHs Q_HB
        refine Kd.R_lit_step (Kd.int .u32) _ 44 ?hg (N := 13) ?hd (xs := ([] : List Int)) (inner := []) (ok := fun _ => True) (okp := fun _ => True) ?hr ?hp (fun _ hk => hk) trivial (Below.refl _ _) (Nat.le_refl _) (by simp) ?_; (case hd => rfl); (case hg => rfl); (case hr => first | (go_simp; done) | (go_simp; rfl)); (case hp => exact (Reps.none _ _))
        intro v116 w10 ho11 hb hg_ hnew_
        have N1 := fun (_ : up b 10 10 = true) (_ : b 13 = false) (h6_ : b 14 = true) (h9_ : b 17 = false) => own_apart' (Kd.R_base ho11) (Kd.R_lt (Q_HO123 h6_ h9_))
        clear hg_ hnew_
        (first | rw [← Ny115.out] at ho11 | (simp only [Int.reduceToNat] at ho11; rw [← Ny115.out] at ho11))
        have n0_ := qHs (Kd.R_lower ho11 (below_size (by repeat (first | (with_reducible first | exact HB.out | apply qHg | apply qHh | apply qHi | refine qHm ?_ GE101.out | refine qHm ?_ GE102.out) | exact HB.out))))
        have n1_ := qHs (qHo (g := gb101) (o := .cells #[.string a0_0, .slice A0_1 l0_1.length c0_1, .slice A0_2 l0_2.length c0_2, .slice A0_3 l0_3.length c0_3, .slice A0_4 l0_4.length c0_4, .slice A0_5 l0_5.length c0_5] 26 (0, 0)) (by (with_reducible repeat (first | refine qHd ?_ _ | refine qHe ?_ | refine qHf ?_ _)); exact BK101.out) hb)
        have n2_ := qHs (qHo (g := gb102) (o := .cells #[.string (⟨#[]⟩ : ByteArray), .slice none 0 0, .slice none 0 0, .slice none 0 0, .slice none 0 0, .slice none 0 0] 26 (0, 0)) (by (with_reducible repeat (first | refine qHd ?_ _ | refine qHe ?_ | refine qHf ?_ _)); exact BK102.out) hb)
        have n3_ := qHs (qHp (by repeat (first | (with_reducible first | exact HB.out | apply qHg | apply qHh | apply qHi | refine qHm ?_ GE101.out | refine qHm ?_ GE102.out) | exact HB.out)) hb)
        have z_HO105 := fun (h0_ : b 2 = true) (h1_ : b 5 = false) => (show Kd.R Kd.string 9 w10 w.heap.size (fun _ => True) v104 y103 from by first | exact (qHn (by (with_reducible repeat (first | apply qHa | apply qHb | apply qHc)); exact (Q_HO105 h0_ h1_)) hb) | exact Kd.R_mono (qHn (by (with_reducible repeat (first | apply qHa | apply qHb | apply qHc)); exact (Q_HO105 h0_ h1_)) hb) (fun _ h_ => by first | trivial | exact h_ | exact h_.1))
        have z_HO108 := fun (h0_ : b 5 = true) => (show Kd.R Kd.string 9 w10 w.heap.size (fun _ => True) v107 y106 from by first | exact (qHn (by (with_reducible repeat (first | apply qHa | apply qHb | apply qHc)); exact (Q_HO108 h0_)) hb) | exact Kd.R_mono (qHn (by (with_reducible repeat (first | apply qHa | apply qHb | apply qHc)); exact (Q_HO108 h0_)) hb) (fun _ h_ => by first | trivial | exact h_ | exact h_.1))
        have z_HO111 := fun (h0_ : b 6 = true) (h1_ : b 9 = false) => (show Kd.R Kd.string 9 w10 w.heap.size (fun _ => True) v110 y109 from by first | exact (qHn (by (with_reducible repeat (first | apply qHa | apply qHb | apply qHc)); exact (Q_HO111 h0_ h1_)) hb) | exact Kd.R_mono (qHn (by (with_reducible repeat (first | apply qHa | apply qHb | apply qHc)); exact (Q_HO111 h0_ h1_)) hb) (fun _ h_ => by first | trivial | exact h_ | exact h_.1))
        have z_HO114 := fun (h0_ : b 9 = true) => (show Kd.R Kd.string 9 w10 w.heap.size (fun _ => True) v113 y112 from by first | exact (qHn (by (with_reducible repeat (first | apply qHa | apply qHb | apply qHc)); exact (Q_HO114 h0_)) hb) | exact Kd.R_mono (qHn (by (with_reducible repeat (first | apply qHa | apply qHb | apply qHc)); exact (Q_HO114 h0_)) hb) (fun _ h_ => by first | trivial | exact h_ | exact h_.1))
        have z_HO123 := fun (h0_ : b 14 = true) (h1_ : b 17 = false) => (show Kd.R (Kd.int .u32) 44 w10 w.heap.size (fun _ => True) v122 y121 from by first | exact (Kd.R_elder' (by (with_reducible repeat (first | apply qHa | apply qHb | apply qHc)); exact (Q_HO123 h0_ h1_)) (Kd.R_base ho11) hb) | exact Kd.R_mono (Kd.R_elder' (by (with_reducible repeat (first | apply qHa | apply qHb | apply qHc)); exact (Q_HO123 h0_ h1_)) (Kd.R_base ho11) hb) (fun _ h_ => by first | trivial | exact h_ | exact h_.1))
        have z_HO129 := fun (h0_ : b 18 = true) (h1_ : b 21 = false) => (show Kd.R k43 43 w10 w.heap.size (fun _ => True) v128 y127 from by first | exact (qHn (by (with_reducible repeat (first | apply qHa | apply qHb | apply qHc)); exact (Q_HO129 h0_ h1_)) hb) | exact Kd.R_mono (qHn (by (with_reducible repeat (first | apply qHa | apply qHb | apply qHc)); exact (Q_HO129 h0_ h1_)) hb) (fun _ h_ => by first | trivial | exact h_ | exact h_.1))
        clear BK101
        clear BK102
        clear HB
        have HO117 := n0_
        have BK101 := n1_
        have BK102 := n2_
        have HB := n3_
        clear n0_ n1_ n2_ n3_
        clear hb ho11
        refine hK.out _ _ ⟨v104, v107, v110, v113, v116, v119, v122, v125, v128, v131, m22_, (by rw [ha.out]; exact putSel_upk 7 hb_ rfl rfl rfl), (by (with_reducible repeat (first | refine qHd ?_ _ | refine qHe ?_ | refine qHf ?_ _)); exact BK101.out), fun _ => (by (with_reducible repeat (first | refine qHd ?_ _ | refine qHe ?_ | refine qHf ?_ _)); exact BK102.out), (by repeat (first | (with_reducible first | exact HB.out | apply qHg | apply qHh | apply qHi | refine qHm ?_ GE101.out | refine qHm ?_ GE102.out) | exact HB.out)), z_HO105, z_HO108, z_HO111, z_HO114, fun _ _ => (by (with_reducible repeat (first | apply qHa | apply qHb | apply qHc)); exact HO117.out), fun h0_ => absurd ((hoff 13 (by kernel_rfl)).symm.trans h0_) (by decide), z_HO123, fun h0_ => absurd ((hoff 17 (by kernel_rfl)).symm.trans h0_) (by decide), z_HO129, fun h0_ => absurd ((hoff 21 (by kernel_rfl)).symm.trans h0_) (by decide), fun h0_ => absurd ((hoff 23 (by kernel_rfl)).symm.trans h0_) (by decide), fun h0_ => absurd ((hoff 22 (by kernel_rfl)).symm.trans h0_) (by decide), P1, P2, P3, N1, fun h0_ _ _ => absurd ((hoff 13 (by kernel_rfl)).symm.trans h0_) (by decide), fun h0_ => absurd ((hoff 17 (by kernel_rfl)).symm.trans h0_) (by decide)⟩
       refine steps_cons ?_ ?_
       ·rintro b a w' ⟨v104, v107, v110, v113, v116, v119, v122, v125, v128, v131, m22_, ha, Q_BK101, Q_BK102, Q_HB, Q_HO105, Q_HO108, Q_HO111, Q_HO114, Q_HO117, Q_HO120, Q_HO123, Q_HO126, Q_HO129, Q_HO132, Q_BK102_e23, Q_X22_, P1, P2, P3, P4, P5, P6⟩ hb_ hon hoff
        refine ⟨_, rfl, fun K hK => ?_⟩
        have e14 : a.tmps[14]? = some (.pointer (some ⟨gb101, 3, none⟩)) := by rw [ha]; exact (putSel_off rfl).trans rfl
        replace ha := qHs ha
        have BK101 := qHs Q_BK101
        have BK102 := qHs (Q_BK102 (hoff 23 (by kernel_rfl)))
        have HB := qHs Q_HB
        have hc0_ : w'.cell? ⟨gb101, 0, none⟩ = some (.string a0_0) := (blk_cell BK101.out 0).trans rfl
        have hc1_ : w'.cell? ⟨gb101, 1, none⟩ = some (.slice A0_1 l0_1.length c0_1) := (blk_cell BK101.out 1).trans rfl
        have hc2_ : w'.cell? ⟨gb101, 2, none⟩ = some (.slice A0_2 l0_2.length c0_2) := (blk_cell BK101.out 2).trans rfl
        have hc3_ : w'.cell? ⟨gb101, 3, none⟩ = some (.slice A0_3 l0_3.length c0_3) := (blk_cell BK101.out 3).trans rfl
        have hc4_ : w'.cell? ⟨gb101, 4, none⟩ = some (.slice A0_4 l0_4.length c0_4) := (blk_cell BK101.out 4).trans rfl
        have hc5_ : w'.cell? ⟨gb101, 5, none⟩ = some (.slice A0_5 l0_5.length c0_5) := (blk_cell BK101.out 5).trans rfl
        refine value_ (w1 := w') (v := .slice A0_3 l0_3.length c0_3) (by rfl) rfl ?_ ?_
        ·go_simp
         (try simp only [i64_w])
         try rfl
        refine hK.out _ _ ⟨v104, v107, v110, v113, v116, v119, v122, v125, v128, v131, m22_, (by rw [ha.out]; exact putSel_upk 8 hb_ rfl rfl rfl), Q_BK101, Q_BK102, Q_HB, Q_HO105, Q_HO108, Q_HO111, Q_HO114, Q_HO117, fun h0_ => absurd ((hoff 13 (by kernel_rfl)).symm.trans h0_) (by decide), Q_HO123, fun h0_ => absurd ((hoff 17 (by kernel_rfl)).symm.trans h0_) (by decide), Q_HO129, fun h0_ => absurd ((hoff 21 (by kernel_rfl)).symm.trans h0_) (by decide), fun h0_ => absurd ((hoff 23 (by kernel_rfl)).symm.trans h0_) (by decide), fun h0_ => absurd ((hoff 22 (by kernel_rfl)).symm.trans h0_) (by decide), P1, P2, P3, P4, P5, P6⟩
       refine steps_cons ?_ ?_
       ·rintro b a w' ⟨v104, v107, v110, v113, v116, v119, v122, v125, v128, v131, m22_, ha, Q_BK101, Q_BK102, Q_HB, Q_HO105, Q_HO108, Q_HO111, Q_HO114, Q_HO117, Q_HO120, Q_HO123, Q_HO126, Q_HO129, Q_HO132, Q_BK102_e23, Q_X22_, P1, P2, P3, P4, P5, P6⟩ hb_ hon hoff
        refine ⟨_, rfl, fun K hK => ?_⟩
        have e13 : a.tmps[13]? = some (v116) := by rw [ha]; exact putSel_on (e := (10, 13, v116)) 7 rfl rfl (hon 10 (by kernel_rfl)) rfl
        have e15 : a.tmps[15]? = some (.slice A0_3 l0_3.length c0_3) := by rw [ha]; exact putSel_on (e := (12, 15, .slice A0_3 l0_3.length c0_3)) 8 rfl rfl (hon 12 (by kernel_rfl)) rfl
        replace ha := qHs ha
        have BK101 := qHs Q_BK101
        have BK102 := qHs (Q_BK102 (hoff 23 (by kernel_rfl)))
        have HB := qHs Q_HB
        have HO108 := qHs (Q_HO108 (hon 5 (by kernel_rfl)))
        have HO114 := qHs (Q_HO114 (hon 9 (by kernel_rfl)))
        have HO117 := qHs (Q_HO117 (hon 10 (by kernel_rfl)) hb_)
        refine Kd.R_append_rows_step (Kd.int .u32) (w0 := w) w.heap.size (by rfl) (.tmp 13) (.tmp 15) 23 44 (.int .u32 0) 4 rfl Tryd.underlying23 info44 rfl (by decide) (by omega) v116 y115 l0_3 _ _ _ (fun _ => True) (fun _ => False) (ev_tmp e13) (ev_tmp e15) ?aO ?aR (fun _ _ h => h) (fun _ h => h.elim) ?aF ?aB ?aS ?aL ?_
        (case aR => repeat (first | exact (qHq HR0_3.out HB.out) | (with_reducible refine qHj ?_ _) | (with_reducible refine qHk ?_ _) | (with_reducible refine qHl ?_)))
        (case aB => exact (by repeat (first | (with_reducible first | exact HB.out | apply qHg | apply qHh | apply qHi | refine qHm ?_ GE101.out | refine qHm ?_ GE102.out) | exact HB.out)))
        (case aF => exact (fun _ _ => trivial))
        (case aO => exact (by (with_reducible repeat (first | apply qHa | apply qHb | apply qHc)); exact HO117.out))
        (case aS => exact (below_size (by repeat (first | (with_reducible first | exact HB.out | apply qHg | apply qHh | apply qHi | refine qHm ?_ GE101.out | refine qHm ?_ GE102.out) | exact HB.out))))
        (case aL => have := LMc4.out; omega)
        intro v119 w19 ho hb hg hat
        have N2 := fun (_ : up b 13 13 = true) (h6_ : b 14 = true) (h9_ : b 17 = false) => apart_after (P4 (hon 10 (by kernel_rfl)) hb_ h6_ h9_) hat (Kd.R_lt (Q_HO123 h6_ h9_))
        rw [← Ny118.out] at ho
        have n0_ := qHs (blk_grown (g := gb101) (o := .cells #[.string a0_0, .slice A0_1 l0_1.length c0_1, .slice A0_2 l0_2.length c0_2, .slice A0_3 l0_3.length c0_3, .slice A0_4 l0_4.length c0_4, .slice A0_5 l0_5.length c0_5] 26 (0, 0)) (by (with_reducible repeat (first | refine qHd ?_ _ | refine qHe ?_ | refine qHf ?_ _)); exact BK101.out) hg (Kd.R_ne HO117.out BK101.out (by decide)))
        have n1_ := qHs (blk_grown (g := gb102) (o := .cells #[.string (⟨#[]⟩ : ByteArray), .slice none 0 0, .slice none 0 0, .slice none 0 0, .slice none 0 0, .slice none 0 0] 26 (0, 0)) (by (with_reducible repeat (first | refine qHd ?_ _ | refine qHe ?_ | refine qHf ?_ _)); exact BK102.out) hg (Kd.R_ne HO117.out BK102.out (by decide)))
        have n2_ := qHs (Kd.R_over' (by (with_reducible repeat (first | apply qHa | apply qHb | apply qHc)); exact HO108.out) (Kd.R_typed (by (with_reducible repeat (first | apply qHa | apply qHb | apply qHc)); exact HO117.out)) (by decide) hg)
        have n3_ := qHs (Kd.R_over' (by (with_reducible repeat (first | apply qHa | apply qHb | apply qHc)); exact HO114.out) (Kd.R_typed (by (with_reducible repeat (first | apply qHa | apply qHb | apply qHc)); exact HO117.out)) (by decide) hg)
        have n4_ := qHs (hb)
        have n5_ := qHs (ho)
        have z_HO123 := fun (h0_ : b 14 = true) (h1_ : b 17 = false) => (show Kd.R (Kd.int .u32) 44 w19 w.heap.size (fun _ => True) v122 y121 from by first | exact (Kd.R_after (ok := (fun _ => True)) (by (with_reducible repeat (first | apply qHa | apply qHb | apply qHc)); exact Kd.R_flat (fun h => h) (Q_HO123 h0_ h1_) (fun k hk _ => ⟨trivial, atom_of' (P4 (hon 10 (by kernel_rfl)) hb_ h0_ h1_) hk⟩)) hg hat) | exact Kd.R_mono (Kd.R_after (ok := (fun _ => True)) (by (with_reducible repeat (first | apply qHa | apply qHb | apply qHc)); exact Kd.R_flat (fun h => h) (Q_HO123 h0_ h1_) (fun k hk _ => ⟨trivial, atom_of' (P4 (hon 10 (by kernel_rfl)) hb_ h0_ h1_) hk⟩)) hg hat) (fun _ h_ => by first | trivial | exact h_ | exact h_.1))
        have z_HO129 := fun (h0_ : b 18 = true) (h1_ : b 21 = false) => (show Kd.R k43 43 w19 w.heap.size (fun _ => True) v128 y127 from by first | exact (Kd.R_over' (by (with_reducible repeat (first | apply qHa | apply qHb | apply qHc)); exact (Q_HO129 h0_ h1_)) (Kd.R_typed (by (with_reducible repeat (first | apply qHa | apply qHb | apply qHc)); exact HO117.out)) (by decide) hg) | exact Kd.R_mono (Kd.R_over' (by (with_reducible repeat (first | apply qHa | apply qHb | apply qHc)); exact (Q_HO129 h0_ h1_)) (Kd.R_typed (by (with_reducible repeat (first | apply qHa | apply qHb | apply qHc)); exact HO117.out)) (by decide) hg) (fun _ h_ => by first | trivial | exact h_ | exact h_.1))
        clear BK101
        clear BK102
        clear HO108
        clear HO114
        clear HB
        clear HO117
        have BK101 := n0_
        have BK102 := n1_
        have HO108 := n2_
        have HO114 := n3_
        have HB := n4_
        have HO120 := n5_
        clear n0_ n1_ n2_ n3_ n4_ n5_
        clear ho hb hg hat
        refine hK.out _ _ ⟨v104, v107, v110, v113, v116, v119, v122, v125, v128, v131, m22_, (by rw [ha.out]; exact putSel_upk 9 hb_ rfl rfl rfl), (by (with_reducible repeat (first | refine qHd ?_ _ | refine qHe ?_ | refine qHf ?_ _)); exact BK101.out), fun _ => (by (with_reducible repeat (first | refine qHd ?_ _ | refine qHe ?_ | refine qHf ?_ _)); exact BK102.out), (by repeat (first | (with_reducible first | exact HB.out | apply qHg | apply qHh | apply qHi | refine qHm ?_ GE101.out | refine qHm ?_ GE102.out) | exact HB.out)), fun _ h1_ => absurd ((hon 5 (by kernel_rfl)).symm.trans h1_) (by decide), fun _ => (by (with_reducible repeat (first | apply qHa | apply qHb | apply qHc)); exact HO108.out), fun _ h1_ => absurd ((hon 9 (by kernel_rfl)).symm.trans h1_) (by decide), fun _ => (by (with_reducible repeat (first | apply qHa | apply qHb | apply qHc)); exact HO114.out), fun _ h1_ => absurd ((up_self b 13).symm.trans h1_) (by decide), fun _ => (by (with_reducible repeat (first | apply qHa | apply qHb | apply qHc)); exact HO120.out), z_HO123, fun h0_ => absurd ((hoff 17 (by kernel_rfl)).symm.trans h0_) (by decide), z_HO129, fun h0_ => absurd ((hoff 21 (by kernel_rfl)).symm.trans h0_) (by decide), fun h0_ => absurd ((hoff 23 (by kernel_rfl)).symm.trans h0_) (by decide), fun h0_ => absurd ((hoff 22 (by kernel_rfl)).symm.trans h0_) (by decide), P1, P2, P3, fun _ h0_ _ _ => absurd ((up_self b 13).symm.trans h0_) (by decide), N2, fun h0_ => absurd ((hoff 17 (by kernel_rfl)).symm.trans h0_) (by decide)⟩
       refine steps_cons ?_ ?_
       ·rintro b a w' ⟨v104, v107, v110, v113, v116, v119, v122, v125, v128, v131, m22_, ha, Q_BK101, Q_BK102, Q_HB, Q_HO105, Q_HO108, Q_HO111, Q_HO114, Q_HO117, Q_HO120, Q_HO123, Q_HO126, Q_HO129, Q_HO132, Q_BK102_e23, Q_X22_, P1, P2, P3, P4, P5, P6⟩ hb_ hon hoff
        refine ⟨_, rfl, fun K hK => ?_⟩
        replace ha := qHs ha
        have BK101 := qHs Q_BK101
        have BK102 := qHs (Q_BK102 (hoff 23 (by kernel_rfl)))
        have HB := qHs Q_HB
        refine Kd.R_lit_step (Kd.int .u32) _ 44 ?hg (N := 17) ?hd (xs := ([] : List Int)) (inner := []) (ok := fun _ => True) (okp := fun _ => True) ?hr ?hp (fun _ hk => hk) trivial (Below.refl _ _) (Nat.le_refl _) (by simp) ?_; (case hd => rfl); (case hg => rfl); (case hr => first | (go_simp; done) | (go_simp; rfl)); (case hp => exact (Reps.none _ _))
        intro v122 w10 ho11 hb hg_ hnew_
        have N1 := fun (h2_ : b 10 = true) (h5_ : b 13 = false) (_ : up b 14 14 = true) (_ : b 17 = false) => own_apart (Kd.R_lt (Q_HO117 h2_ h5_)) (Kd.R_base ho11)
        have N2 := fun (h5_ : b 13 = true) (_ : up b 14 14 = true) (_ : b 17 = false) => own_apart (Kd.R_lt (Q_HO120 h5_)) (Kd.R_base ho11)
        clear hg_ hnew_
        (first | rw [← Ny121.out] at ho11 | (simp only [Int.reduceToNat] at ho11; rw [← Ny121.out] at ho11))
        have n0_ := qHs (Kd.R_lower ho11 (below_size (by repeat (first | (with_reducible first | exact HB.out | apply qHg | apply qHh | apply qHi | refine qHm ?_ GE101.out | refine qHm ?_ GE102.out) | exact HB.out))))
        have n1_ := qHs (qHo (g := gb101) (o := .cells #[.string a0_0, .slice A0_1 l0_1.length c0_1, .slice A0_2 l0_2.length c0_2, .slice A0_3 l0_3.length c0_3, .slice A0_4 l0_4.length c0_4, .slice A0_5 l0_5.length c0_5] 26 (0, 0)) (by (with_reducible repeat (first | refine qHd ?_ _ | refine qHe ?_ | refine qHf ?_ _)); exact BK101.out) hb)
        have n2_ := qHs (qHo (g := gb102) (o := .cells #[.string (⟨#[]⟩ : ByteArray), .slice none 0 0, .slice none 0 0, .slice none 0 0, .slice none 0 0, .slice none 0 0] 26 (0, 0)) (by (with_reducible repeat (first | refine qHd ?_ _ | refine qHe ?_ | refine qHf ?_ _)); exact BK102.out) hb)
        have n3_ := qHs (qHp (by repeat (first | (with_reducible first | exact HB.out | apply qHg | apply qHh | apply qHi | refine qHm ?_ GE101.out | refine qHm ?_ GE102.out) | exact HB.out)) hb)
        have z_HO105 := fun (h0_ : b 2 = true) (h1_ : b 5 = false) => (show Kd.R Kd.string 9 w10 w.heap.size (fun _ => True) v104 y103 from by first | exact (qHn (by (with_reducible repeat (first | apply qHa | apply qHb | apply qHc)); exact (Q_HO105 h0_ h1_)) hb) | exact Kd.R_mono (qHn (by (with_reducible repeat (first | apply qHa | apply qHb | apply qHc)); exact (Q_HO105 h0_ h1_)) hb) (fun _ h_ => by first | trivial | exact h_ | exact h_.1))
        have z_HO108 := fun (h0_ : b 5 = true) => (show Kd.R Kd.string 9 w10 w.heap.size (fun _ => True) v107 y106 from by first | exact (qHn (by (with_reducible repeat (first | apply qHa | apply qHb | apply qHc)); exact (Q_HO108 h0_)) hb) | exact Kd.R_mono (qHn (by (with_reducible repeat (first | apply qHa | apply qHb | apply qHc)); exact (Q_HO108 h0_)) hb) (fun _ h_ => by first | trivial | exact h_ | exact h_.1))
        have z_HO111 := fun (h0_ : b 6 = true) (h1_ : b 9 = false) => (show Kd.R Kd.string 9 w10 w.heap.size (fun _ => True) v110 y109 from by first | exact (qHn (by (with_reducible repeat (first | apply qHa | apply qHb | apply qHc)); exact (Q_HO111 h0_ h1_)) hb) | exact Kd.R_mono (qHn (by (with_reducible repeat (first | apply qHa | apply qHb | apply qHc)); exact (Q_HO111 h0_ h1_)) hb) (fun _ h_ => by first | trivial | exact h_ | exact h_.1))
        have z_HO114 := fun (h0_ : b 9 = true) => (show Kd.R Kd.string 9 w10 w.heap.size (fun _ => True) v113 y112 from by first | exact (qHn (by (with_reducible repeat (first | apply qHa | apply qHb | apply qHc)); exact (Q_HO114 h0_)) hb) | exact Kd.R_mono (qHn (by (with_reducible repeat (first | apply qHa | apply qHb | apply qHc)); exact (Q_HO114 h0_)) hb) (fun _ h_ => by first | trivial | exact h_ | exact h_.1))
        have z_HO117 := fun (h0_ : b 10 = true) (h1_ : b 13 = false) => (show Kd.R (Kd.int .u32) 44 w10 w.heap.size (fun _ => True) v116 y115 from by first | exact (Kd.R_elder' (by (with_reducible repeat (first | apply qHa | apply qHb | apply qHc)); exact (Q_HO117 h0_ h1_)) (Kd.R_base ho11) hb) | exact Kd.R_mono (Kd.R_elder' (by (with_reducible repeat (first | apply qHa | apply qHb | apply qHc)); exact (Q_HO117 h0_ h1_)) (Kd.R_base ho11) hb) (fun _ h_ => by first | trivial | exact h_ | exact h_.1))
        have z_HO120 := fun (h0_ : b 13 = true) => (show Kd.R (Kd.int .u32) 44 w10 w.heap.size (fun _ => True) v119 y118 from by first | exact (Kd.R_elder' (by (with_reducible repeat (first | apply qHa | apply qHb | apply qHc)); exact (Q_HO120 h0_)) (Kd.R_base ho11) hb) | exact Kd.R_mono (Kd.R_elder' (by (with_reducible repeat (first | apply qHa | apply qHb | apply qHc)); exact (Q_HO120 h0_)) (Kd.R_base ho11) hb) (fun _ h_ => by first | trivial | exact h_ | exact h_.1))
        have z_HO129 := fun (h0_ : b 18 = true) (h1_ : b 21 = false) => (show Kd.R k43 43 w10 w.heap.size (fun _ => True) v128 y127 from by first | exact (qHn (by (with_reducible repeat (first | apply qHa | apply qHb | apply qHc)); exact (Q_HO129 h0_ h1_)) hb) | exact Kd.R_mono (qHn (by (with_reducible repeat (first | apply qHa | apply qHb | apply qHc)); exact (Q_HO129 h0_ h1_)) hb) (fun _ h_ => by first | trivial | exact h_ | exact h_.1))
        clear BK101
        clear BK102
        clear HB
        have HO123 := n0_
        have BK101 := n1_
        have BK102 := n2_
        have HB := n3_
        clear n0_ n1_ n2_ n3_
        clear hb ho11
        refine hK.out _ _ ⟨v104, v107, v110, v113, v116, v119, v122, v125, v128, v131, m22_, (by rw [ha.out]; exact putSel_upk 10 hb_ rfl rfl rfl), (by (with_reducible repeat (first | refine qHd ?_ _ | refine qHe ?_ | refine qHf ?_ _)); exact BK101.out), fun _ => (by (with_reducible repeat (first | refine qHd ?_ _ | refine qHe ?_ | refine qHf ?_ _)); exact BK102.out), (by repeat (first | (with_reducible first | exact HB.out | apply qHg | apply qHh | apply qHi | refine qHm ?_ GE101.out | refine qHm ?_ GE102.out) | exact HB.out)), z_HO105, z_HO108, z_HO111, z_HO114, z_HO117, z_HO120, fun _ _ => (by (with_reducible repeat (first | apply qHa | apply qHb | apply qHc)); exact HO123.out), fun h0_ => absurd ((hoff 17 (by kernel_rfl)).symm.trans h0_) (by decide), z_HO129, fun h0_ => absurd ((hoff 21 (by kernel_rfl)).symm.trans h0_) (by decide), fun h0_ => absurd ((hoff 23 (by kernel_rfl)).symm.trans h0_) (by decide), fun h0_ => absurd ((hoff 22 (by kernel_rfl)).symm.trans h0_) (by decide), P1, P2, P3, N1, N2, fun h0_ => absurd ((hoff 17 (by kernel_rfl)).symm.trans h0_) (by decide)⟩
       refine steps_cons ?_ ?_
       ·rintro b a w' ⟨v104, v107, v110, v113, v116, v119, v122, v125, v128, v131, m22_, ha, Q_BK101, Q_BK102, Q_HB, Q_HO105, Q_HO108, Q_HO111, Q_HO114, Q_HO117, Q_HO120, Q_HO123, Q_HO126, Q_HO129, Q_HO132, Q_BK102_e23, Q_X22_, P1, P2, P3, P4, P5, P6⟩ hb_ hon hoff
        refine ⟨_, rfl, fun K hK => ?_⟩
        have e18 : a.tmps[18]? = some (.pointer (some ⟨gb101, 4, none⟩)) := by rw [ha]; exact (putSel_off rfl).trans rfl
        replace ha := qHs ha
        have BK101 := qHs Q_BK101
        have BK102 := qHs (Q_BK102 (hoff 23 (by kernel_rfl)))
        have HB := qHs Q_HB
        have hc0_ : w'.cell? ⟨gb101, 0, none⟩ = some (.string a0_0) := (blk_cell BK101.out 0).trans rfl
        have hc1_ : w'.cell? ⟨gb101, 1, none⟩ = some (.slice A0_1 l0_1.length c0_1) := (blk_cell BK101.out 1).trans rfl
        have hc2_ : w'.cell? ⟨gb101, 2, none⟩ = some (.slice A0_2 l0_2.length c0_2) := (blk_cell BK101.out 2).trans rfl
        have hc3_ : w'.cell? ⟨gb101, 3, none⟩ = some (.slice A0_3 l0_3.length c0_3) := (blk_cell BK101.out 3).trans rfl
        have hc4_ : w'.cell? ⟨gb101, 4, none⟩ = some (.slice A0_4 l0_4.length c0_4) := (blk_cell BK101.out 4).trans rfl
        have hc5_ : w'.cell? ⟨gb101, 5, none⟩ = some (.slice A0_5 l0_5.length c0_5) := (blk_cell BK101.out 5).trans rfl
        refine value_ (w1 := w') (v := .slice A0_4 l0_4.length c0_4) (by rfl) rfl ?_ ?_
        ·go_simp
         (try simp only [i64_w])
         try rfl
        refine hK.out _ _ ⟨v104, v107, v110, v113, v116, v119, v122, v125, v128, v131, m22_, (by rw [ha.out]; exact putSel_upk 11 hb_ rfl rfl rfl), Q_BK101, Q_BK102, Q_HB, Q_HO105, Q_HO108, Q_HO111, Q_HO114, Q_HO117, Q_HO120, Q_HO123, fun h0_ => absurd ((hoff 17 (by kernel_rfl)).symm.trans h0_) (by decide), Q_HO129, fun h0_ => absurd ((hoff 21 (by kernel_rfl)).symm.trans h0_) (by decide), fun h0_ => absurd ((hoff 23 (by kernel_rfl)).symm.trans h0_) (by decide), fun h0_ => absurd ((hoff 22 (by kernel_rfl)).symm.trans h0_) (by decide), P1, P2, P3, P4, P5, P6⟩
       refine steps_cons ?_ ?_
       ·rintro b a w' ⟨v104, v107, v110, v113, v116, v119, v122, v125, v128, v131, m22_, ha, Q_BK101, Q_BK102, Q_HB, Q_HO105, Q_HO108, Q_HO111, Q_HO114, Q_HO117, Q_HO120, Q_HO123, Q_HO126, Q_HO129, Q_HO132, Q_BK102_e23, Q_X22_, P1, P2, P3, P4, P5, P6⟩ hb_ hon hoff
        refine ⟨_, rfl, fun K hK => ?_⟩
        have e17 : a.tmps[17]? = some (v122) := by rw [ha]; exact putSel_on (e := (14, 17, v122)) 10 rfl rfl (hon 14 (by kernel_rfl)) rfl
        have e19 : a.tmps[19]? = some (.slice A0_4 l0_4.length c0_4) := by rw [ha]; exact putSel_on (e := (16, 19, .slice A0_4 l0_4.length c0_4)) 11 rfl rfl (hon 16 (by kernel_rfl)) rfl
        replace ha := qHs ha
        have BK101 := qHs Q_BK101
        have BK102 := qHs (Q_BK102 (hoff 23 (by kernel_rfl)))
        have HB := qHs Q_HB
        have HO108 := qHs (Q_HO108 (hon 5 (by kernel_rfl)))
        have HO114 := qHs (Q_HO114 (hon 9 (by kernel_rfl)))
        have HO120 := qHs (Q_HO120 (hon 13 (by kernel_rfl)))
        have HO123 := qHs (Q_HO123 (hon 14 (by kernel_rfl)) hb_)
        refine Kd.R_append_rows_step (Kd.int .u32) (w0 := w) w.heap.size (by rfl) (.tmp 17) (.tmp 19) 23 44 (.int .u32 0) 4 rfl Tryd.underlying23 info44 rfl (by decide) (by omega) v122 y121 l0_4 _ _ _ (fun _ => True) (fun _ => False) (ev_tmp e17) (ev_tmp e19) ?aO ?aR (fun _ _ h => h) (fun _ h => h.elim) ?aF ?aB ?aS ?aL ?_
        (case aR => repeat (first | exact (qHq HR0_4.out HB.out) | (with_reducible refine qHj ?_ _) | (with_reducible refine qHk ?_ _) | (with_reducible refine qHl ?_)))
        (case aB => exact (by repeat (first | (with_reducible first | exact HB.out | apply qHg | apply qHh | apply qHi | refine qHm ?_ GE101.out | refine qHm ?_ GE102.out) | exact HB.out)))
        (case aF => exact (fun _ _ => trivial))
        (case aO => exact (by (with_reducible repeat (first | apply qHa | apply qHb | apply qHc)); exact HO123.out))
        (case aS => exact (below_size (by repeat (first | (with_reducible first | exact HB.out | apply qHg | apply qHh | apply qHi | refine qHm ?_ GE101.out | refine qHm ?_ GE102.out) | exact HB.out))))
        (case aL => have := LMc5.out; omega)
        intro v125 w22 ho hb hg hat
        have N3 := fun (_ : up b 17 17 = true) => apart_after' (P5 (hon 13 (by kernel_rfl)) (hon 14 (by kernel_rfl)) hb_) hat (Kd.R_lt (Q_HO120 (hon 13 (by kernel_rfl))))
        rw [← Ny124.out] at ho
        have n0_ := qHs (blk_grown (g := gb101) (o := .cells #[.string a0_0, .slice A0_1 l0_1.length c0_1, .slice A0_2 l0_2.length c0_2, .slice A0_3 l0_3.length c0_3, .slice A0_4 l0_4.length c0_4, .slice A0_5 l0_5.length c0_5] 26 (0, 0)) (by (with_reducible repeat (first | refine qHd ?_ _ | refine qHe ?_ | refine qHf ?_ _)); exact BK101.out) hg (Kd.R_ne HO123.out BK101.out (by decide)))
        have n1_ := qHs (blk_grown (g := gb102) (o := .cells #[.string (⟨#[]⟩ : ByteArray), .slice none 0 0, .slice none 0 0, .slice none 0 0, .slice none 0 0, .slice none 0 0] 26 (0, 0)) (by (with_reducible repeat (first | refine qHd ?_ _ | refine qHe ?_ | refine qHf ?_ _)); exact BK102.out) hg (Kd.R_ne HO123.out BK102.out (by decide)))
        have n2_ := qHs (Kd.R_over' (by (with_reducible repeat (first | apply qHa | apply qHb | apply qHc)); exact HO108.out) (Kd.R_typed (by (with_reducible repeat (first | apply qHa | apply qHb | apply qHc)); exact HO123.out)) (by decide) hg)
        have n3_ := qHs (Kd.R_over' (by (with_reducible repeat (first | apply qHa | apply qHb | apply qHc)); exact HO114.out) (Kd.R_typed (by (with_reducible repeat (first | apply qHa | apply qHb | apply qHc)); exact HO123.out)) (by decide) hg)
        have n4_ := qHs (Kd.R_after (ok := (fun _ => True)) (by (with_reducible repeat (first | apply qHa | apply qHb | apply qHc)); exact Kd.R_flat (fun h => h) HO120.out (fun k hk _ => ⟨trivial, atom_of (P5 (hon 13 (by kernel_rfl)) (hon 14 (by kernel_rfl)) hb_) hk⟩)) hg hat)
        have n5_ := qHs (hb)
        have n6_ := qHs (ho)
        have z_HO129 := fun (h0_ : b 18 = true) (h1_ : b 21 = false) => (show Kd.R k43 43 w22 w.heap.size (fun _ => True) v128 y127 from by first | exact (Kd.R_over' (by (with_reducible repeat (first | apply qHa | apply qHb | apply qHc)); exact (Q_HO129 h0_ h1_)) (Kd.R_typed (by (with_reducible repeat (first | apply qHa | apply qHb | apply qHc)); exact HO123.out)) (by decide) hg) | exact Kd.R_mono (Kd.R_over' (by (with_reducible repeat (first | apply qHa | apply qHb | apply qHc)); exact (Q_HO129 h0_ h1_)) (Kd.R_typed (by (with_reducible repeat (first | apply qHa | apply qHb | apply qHc)); exact HO123.out)) (by decide) hg) (fun _ h_ => by first | trivial | exact h_ | exact h_.1))
        clear BK101
        clear BK102
        clear HO108
        clear HO114
        clear HO120
        clear HB
        clear HO123
        have BK101 := n0_
        have BK102 := n1_
        have HO108 := n2_
        have HO114 := n3_
        have HO120 := n4_
        have HB := n5_
        have HO126 := n6_
        clear n0_ n1_ n2_ n3_ n4_ n5_ n6_
        clear ho hb hg hat
        refine hK.out _ _ ⟨v104, v107, v110, v113, v116, v119, v122, v125, v128, v131, m22_, (by rw [ha.out]; exact putSel_upk 12 hb_ rfl rfl rfl), (by (with_reducible repeat (first | refine qHd ?_ _ | refine qHe ?_ | refine qHf ?_ _)); exact BK101.out), fun _ => (by (with_reducible repeat (first | refine qHd ?_ _ | refine qHe ?_ | refine qHf ?_ _)); exact BK102.out), (by repeat (first | (with_reducible first | exact HB.out | apply qHg | apply qHh | apply qHi | refine qHm ?_ GE101.out | refine qHm ?_ GE102.out) | exact HB.out)), fun _ h1_ => absurd ((hon 5 (by kernel_rfl)).symm.trans h1_) (by decide), fun _ => (by (with_reducible repeat (first | apply qHa | apply qHb | apply qHc)); exact HO108.out), fun _ h1_ => absurd ((hon 9 (by kernel_rfl)).symm.trans h1_) (by decide), fun _ => (by (with_reducible repeat (first | apply qHa | apply qHb | apply qHc)); exact HO114.out), fun _ h1_ => absurd ((hon 13 (by kernel_rfl)).symm.trans h1_) (by decide), fun _ => (by (with_reducible repeat (first | apply qHa | apply qHb | apply qHc)); exact Kd.R_mono HO120.out (fun _ _ => trivial)), fun _ h1_ => absurd ((up_self b 17).symm.trans h1_) (by decide), fun _ => (by (with_reducible repeat (first | apply qHa | apply qHb | apply qHc)); exact HO126.out), z_HO129, fun h0_ => absurd ((hoff 21 (by kernel_rfl)).symm.trans h0_) (by decide), fun h0_ => absurd ((hoff 23 (by kernel_rfl)).symm.trans h0_) (by decide), fun h0_ => absurd ((hoff 22 (by kernel_rfl)).symm.trans h0_) (by decide), P1, P2, P3, fun _ h0_ _ _ => absurd ((hon 13 (by kernel_rfl)).symm.trans h0_) (by decide), fun _ _ h0_ => absurd ((up_self b 17).symm.trans h0_) (by decide), N3⟩
       refine steps_cons ?_ ?_
       ·rintro b a w' ⟨v104, v107, v110, v113, v116, v119, v122, v125, v128, v131, m22_, ha, Q_BK101, Q_BK102, Q_HB, Q_HO105, Q_HO108, Q_HO111, Q_HO114, Q_HO117, Q_HO120, Q_HO123, Q_HO126, Q_HO129, Q_HO132, Q_BK102_e23, Q_X22_, P1, P2, P3, P4, P5, P6⟩ hb_ hon hoff
        refine ⟨_, rfl, fun K hK => ?_⟩
        replace ha := qHs ha
        have BK101 := qHs Q_BK101
        have BK102 := qHs (Q_BK102 (hoff 23 (by kernel_rfl)))
        have HB := qHs Q_HB
        refine Kd.R_lit_step k43 _ 43 ?hg (N := 21) ?hd (xs := ([] : List (S43))) (inner := []) (ok := fun _ => True) (okp := fun _ => True) ?hr ?hp (fun _ hk => hk) trivial (Below.refl _ _) (Nat.le_refl _) (by simp) ?_; (case hd => rfl); (case hg => rfl); (case hr => first | (go_simp; done) | (go_simp; rfl)); (case hp => exact (Reps.none _ _))
        intro v128 w10 ho11 hb hg_ hnew_
        clear hg_ hnew_
        (first | rw [← Ny127.out] at ho11 | (simp only [Int.reduceToNat] at ho11; rw [← Ny127.out] at ho11))
        have n0_ := qHs (Kd.R_lower ho11 (below_size (by repeat (first | (with_reducible first | exact HB.out | apply qHg | apply qHh | apply qHi | refine qHm ?_ GE101.out | refine qHm ?_ GE102.out) | exact HB.out))))
        have n1_ := qHs (qHo (g := gb101) (o := .cells #[.string a0_0, .slice A0_1 l0_1.length c0_1, .slice A0_2 l0_2.length c0_2, .slice A0_3 l0_3.length c0_3, .slice A0_4 l0_4.length c0_4, .slice A0_5 l0_5.length c0_5] 26 (0, 0)) (by (with_reducible repeat (first | refine qHd ?_ _ | refine qHe ?_ | refine qHf ?_ _)); exact BK101.out) hb)
        have n2_ := qHs (qHo (g := gb102) (o := .cells #[.string (⟨#[]⟩ : ByteArray), .slice none 0 0, .slice none 0 0, .slice none 0 0, .slice none 0 0, .slice none 0 0] 26 (0, 0)) (by (with_reducible repeat (first | refine qHd ?_ _ | refine qHe ?_ | refine qHf ?_ _)); exact BK102.out) hb)
        have n3_ := qHs (qHp (by repeat (first | (with_reducible first | exact HB.out | apply qHg | apply qHh | apply qHi | refine qHm ?_ GE101.out | refine qHm ?_ GE102.out) | exact HB.out)) hb)
        have z_HO105 := fun (h0_ : b 2 = true) (h1_ : b 5 = false) => (show Kd.R Kd.string 9 w10 w.heap.size (fun _ => True) v104 y103 from by first | exact (qHn (by (with_reducible repeat (first | apply qHa | apply qHb | apply qHc)); exact (Q_HO105 h0_ h1_)) hb) | exact Kd.R_mono (qHn (by (with_reducible repeat (first | apply qHa | apply qHb | apply qHc)); exact (Q_HO105 h0_ h1_)) hb) (fun _ h_ => by first | trivial | exact h_ | exact h_.1))
        have z_HO108 := fun (h0_ : b 5 = true) => (show Kd.R Kd.string 9 w10 w.heap.size (fun _ => True) v107 y106 from by first | exact (qHn (by (with_reducible repeat (first | apply qHa | apply qHb | apply qHc)); exact (Q_HO108 h0_)) hb) | exact Kd.R_mono (qHn (by (with_reducible repeat (first | apply qHa | apply qHb | apply qHc)); exact (Q_HO108 h0_)) hb) (fun _ h_ => by first | trivial | exact h_ | exact h_.1))
        have z_HO111 := fun (h0_ : b 6 = true) (h1_ : b 9 = false) => (show Kd.R Kd.string 9 w10 w.heap.size (fun _ => True) v110 y109 from by first | exact (qHn (by (with_reducible repeat (first | apply qHa | apply qHb | apply qHc)); exact (Q_HO111 h0_ h1_)) hb) | exact Kd.R_mono (qHn (by (with_reducible repeat (first | apply qHa | apply qHb | apply qHc)); exact (Q_HO111 h0_ h1_)) hb) (fun _ h_ => by first | trivial | exact h_ | exact h_.1))
        have z_HO114 := fun (h0_ : b 9 = true) => (show Kd.R Kd.string 9 w10 w.heap.size (fun _ => True) v113 y112 from by first | exact (qHn (by (with_reducible repeat (first | apply qHa | apply qHb | apply qHc)); exact (Q_HO114 h0_)) hb) | exact Kd.R_mono (qHn (by (with_reducible repeat (first | apply qHa | apply qHb | apply qHc)); exact (Q_HO114 h0_)) hb) (fun _ h_ => by first | trivial | exact h_ | exact h_.1))
        have z_HO117 := fun (h0_ : b 10 = true) (h1_ : b 13 = false) => (show Kd.R (Kd.int .u32) 44 w10 w.heap.size (fun _ => True) v116 y115 from by first | exact (qHn (by (with_reducible repeat (first | apply qHa | apply qHb | apply qHc)); exact (Q_HO117 h0_ h1_)) hb) | exact Kd.R_mono (qHn (by (with_reducible repeat (first | apply qHa | apply qHb | apply qHc)); exact (Q_HO117 h0_ h1_)) hb) (fun _ h_ => by first | trivial | exact h_ | exact h_.1))
        have z_HO120 := fun (h0_ : b 13 = true) => (show Kd.R (Kd.int .u32) 44 w10 w.heap.size (fun _ => True) v119 y118 from by first | exact (qHn (by (with_reducible repeat (first | apply qHa | apply qHb | apply qHc)); exact (Q_HO120 h0_)) hb) | exact Kd.R_mono (qHn (by (with_reducible repeat (first | apply qHa | apply qHb | apply qHc)); exact (Q_HO120 h0_)) hb) (fun _ h_ => by first | trivial | exact h_ | exact h_.1))
        have z_HO123 := fun (h0_ : b 14 = true) (h1_ : b 17 = false) => (show Kd.R (Kd.int .u32) 44 w10 w.heap.size (fun _ => True) v122 y121 from by first | exact (qHn (by (with_reducible repeat (first | apply qHa | apply qHb | apply qHc)); exact (Q_HO123 h0_ h1_)) hb) | exact Kd.R_mono (qHn (by (with_reducible repeat (first | apply qHa | apply qHb | apply qHc)); exact (Q_HO123 h0_ h1_)) hb) (fun _ h_ => by first | trivial | exact h_ | exact h_.1))
        have z_HO126 := fun (h0_ : b 17 = true) => (show Kd.R (Kd.int .u32) 44 w10 w.heap.size (fun _ => True) v125 y124 from by first | exact (qHn (by (with_reducible repeat (first | apply qHa | apply qHb | apply qHc)); exact (Q_HO126 h0_)) hb) | exact Kd.R_mono (qHn (by (with_reducible repeat (first | apply qHa | apply qHb | apply qHc)); exact (Q_HO126 h0_)) hb) (fun _ h_ => by first | trivial | exact h_ | exact h_.1))
        clear BK101
        clear BK102
        clear HB
        have HO129 := n0_
        have BK101 := n1_
        have BK102 := n2_
        have HB := n3_
        clear n0_ n1_ n2_ n3_
        clear hb ho11
        refine hK.out _ _ ⟨v104, v107, v110, v113, v116, v119, v122, v125, v128, v131, m22_, (by rw [ha.out]; exact putSel_upk 13 hb_ rfl rfl rfl), (by (with_reducible repeat (first | refine qHd ?_ _ | refine qHe ?_ | refine qHf ?_ _)); exact BK101.out), fun _ => (by (with_reducible repeat (first | refine qHd ?_ _ | refine qHe ?_ | refine qHf ?_ _)); exact BK102.out), (by repeat (first | (with_reducible first | exact HB.out | apply qHg | apply qHh | apply qHi | refine qHm ?_ GE101.out | refine qHm ?_ GE102.out) | exact HB.out)), z_HO105, z_HO108, z_HO111, z_HO114, z_HO117, z_HO120, z_HO123, z_HO126, fun _ _ => (by (with_reducible repeat (first | apply qHa | apply qHb | apply qHc)); exact HO129.out), fun h0_ => absurd ((hoff 21 (by kernel_rfl)).symm.trans h0_) (by decide), fun h0_ => absurd ((hoff 23 (by kernel_rfl)).symm.trans h0_) (by decide), fun h0_ => absurd ((hoff 22 (by kernel_rfl)).symm.trans h0_) (by decide), P1, P2, P3, P4, P5, P6⟩
       refine steps_cons ?_ ?_
       ·rintro b a w' ⟨v104, v107, v110, v113, v116, v119, v122, v125, v128, v131, m22_, ha, Q_BK101, Q_BK102, Q_HB, Q_HO105, Q_HO108, Q_HO111, Q_HO114, Q_HO117, Q_HO120, Q_HO123, Q_HO126, Q_HO129, Q_HO132, Q_BK102_e23, Q_X22_, P1, P2, P3, P4, P5, P6⟩ hb_ hon hoff
        refine ⟨_, rfl, fun K hK => ?_⟩
        have e22 : a.tmps[22]? = some (.pointer (some ⟨gb101, 5, none⟩)) := by rw [ha]; exact (putSel_off rfl).trans rfl
        replace ha := qHs ha
        have BK101 := qHs Q_BK101
        have BK102 := qHs (Q_BK102 (hoff 23 (by kernel_rfl)))
        have HB := qHs Q_HB
        have hc0_ : w'.cell? ⟨gb101, 0, none⟩ = some (.string a0_0) := (blk_cell BK101.out 0).trans rfl
        have hc1_ : w'.cell? ⟨gb101, 1, none⟩ = some (.slice A0_1 l0_1.length c0_1) := (blk_cell BK101.out 1).trans rfl
        have hc2_ : w'.cell? ⟨gb101, 2, none⟩ = some (.slice A0_2 l0_2.length c0_2) := (blk_cell BK101.out 2).trans rfl
        have hc3_ : w'.cell? ⟨gb101, 3, none⟩ = some (.slice A0_3 l0_3.length c0_3) := (blk_cell BK101.out 3).trans rfl
        have hc4_ : w'.cell? ⟨gb101, 4, none⟩ = some (.slice A0_4 l0_4.length c0_4) := (blk_cell BK101.out 4).trans rfl
        have hc5_ : w'.cell? ⟨gb101, 5, none⟩ = some (.slice A0_5 l0_5.length c0_5) := (blk_cell BK101.out 5).trans rfl
        refine value_ (w1 := w') (v := .slice A0_5 l0_5.length c0_5) (by rfl) rfl ?_ ?_
        ·go_simp
         (try simp only [i64_w])
         try rfl
        refine hK.out _ _ ⟨v104, v107, v110, v113, v116, v119, v122, v125, v128, v131, m22_, (by rw [ha.out]; exact putSel_upk 14 hb_ rfl rfl rfl), Q_BK101, Q_BK102, Q_HB, Q_HO105, Q_HO108, Q_HO111, Q_HO114, Q_HO117, Q_HO120, Q_HO123, Q_HO126, Q_HO129, fun h0_ => absurd ((hoff 21 (by kernel_rfl)).symm.trans h0_) (by decide), fun h0_ => absurd ((hoff 23 (by kernel_rfl)).symm.trans h0_) (by decide), fun h0_ => absurd ((hoff 22 (by kernel_rfl)).symm.trans h0_) (by decide), P1, P2, P3, P4, P5, P6⟩
       refine steps_cons ?_ ?_
       ·rintro b a w' ⟨v104, v107, v110, v113, v116, v119, v122, v125, v128, v131, m22_, ha, Q_BK101, Q_BK102, Q_HB, Q_HO105, Q_HO108, Q_HO111, Q_HO114, Q_HO117, Q_HO120, Q_HO123, Q_HO126, Q_HO129, Q_HO132, Q_BK102_e23, Q_X22_, P1, P2, P3, P4, P5, P6⟩ hb_ hon hoff
        refine ⟨_, rfl, fun K hK => ?_⟩
        have e21 : a.tmps[21]? = some (v128) := by rw [ha]; exact putSel_on (e := (18, 21, v128)) 13 rfl rfl (hon 18 (by kernel_rfl)) rfl
        have e23 : a.tmps[23]? = some (.slice A0_5 l0_5.length c0_5) := by rw [ha]; exact putSel_on (e := (20, 23, .slice A0_5 l0_5.length c0_5)) 14 rfl rfl (hon 20 (by kernel_rfl)) rfl
        replace ha := qHs ha
        have BK101 := qHs Q_BK101
        have BK102 := qHs (Q_BK102 (hoff 23 (by kernel_rfl)))
        have HB := qHs Q_HB
        have HO108 := qHs (Q_HO108 (hon 5 (by kernel_rfl)))
        have HO114 := qHs (Q_HO114 (hon 9 (by kernel_rfl)))
        have HO120 := qHs (Q_HO120 (hon 13 (by kernel_rfl)))
        have HO126 := qHs (Q_HO126 (hon 17 (by kernel_rfl)))
        have HO129 := qHs (Q_HO129 (hon 18 (by kernel_rfl)) hb_)
        refine Kd.R_append_rows_step k43 (w0 := w) w.heap.size (by rfl) (.tmp 21) (.tmp 23) 24 43 (.agg #[(.int .u8 0), (.int .u16 0), (.int .u16 0)]) 6 rfl Tryd.underlying24 info43 rfl (by decide) (by omega) v128 y127 l0_5 _ _ _ (fun _ => True) (fun _ => False) (ev_tmp e21) (ev_tmp e23) ?aO ?aR (fun _ _ h => h) (fun _ h => h.elim) ?aF ?aB ?aS ?aL ?_
        (case aR => repeat (first | exact (qHq HR0_5.out HB.out) | (with_reducible refine qHj ?_ _) | (with_reducible refine qHk ?_ _) | (with_reducible refine qHl ?_)))
        (case aB => exact (by repeat (first | (with_reducible first | exact HB.out | apply qHg | apply qHh | apply qHi | refine qHm ?_ GE101.out | refine qHm ?_ GE102.out) | exact HB.out)))
        (case aF => exact (fun _ _ => trivial))
        (case aO => exact (by (with_reducible repeat (first | apply qHa | apply qHb | apply qHc)); exact HO129.out))
        (case aS => exact (below_size (by repeat (first | (with_reducible first | exact HB.out | apply qHg | apply qHh | apply qHi | refine qHm ?_ GE101.out | refine qHm ?_ GE102.out) | exact HB.out))))
        (case aL => have := LMc6.out; omega)
        intro v131 w25 ho hb hg hat
        rw [← Ny130.out] at ho
        have n0_ := qHs (blk_grown (g := gb101) (o := .cells #[.string a0_0, .slice A0_1 l0_1.length c0_1, .slice A0_2 l0_2.length c0_2, .slice A0_3 l0_3.length c0_3, .slice A0_4 l0_4.length c0_4, .slice A0_5 l0_5.length c0_5] 26 (0, 0)) (by (with_reducible repeat (first | refine qHd ?_ _ | refine qHe ?_ | refine qHf ?_ _)); exact BK101.out) hg (Kd.R_ne HO129.out BK101.out (by decide)))
        have n1_ := qHs (blk_grown (g := gb102) (o := .cells #[.string (⟨#[]⟩ : ByteArray), .slice none 0 0, .slice none 0 0, .slice none 0 0, .slice none 0 0, .slice none 0 0] 26 (0, 0)) (by (with_reducible repeat (first | refine qHd ?_ _ | refine qHe ?_ | refine qHf ?_ _)); exact BK102.out) hg (Kd.R_ne HO129.out BK102.out (by decide)))
        have n2_ := qHs (Kd.R_over' (by (with_reducible repeat (first | apply qHa | apply qHb | apply qHc)); exact HO108.out) (Kd.R_typed (by (with_reducible repeat (first | apply qHa | apply qHb | apply qHc)); exact HO129.out)) (by decide) hg)
        have n3_ := qHs (Kd.R_over' (by (with_reducible repeat (first | apply qHa | apply qHb | apply qHc)); exact HO114.out) (Kd.R_typed (by (with_reducible repeat (first | apply qHa | apply qHb | apply qHc)); exact HO129.out)) (by decide) hg)
        have n4_ := qHs (Kd.R_over' (by (with_reducible repeat (first | apply qHa | apply qHb | apply qHc)); exact HO120.out) (Kd.R_typed (by (with_reducible repeat (first | apply qHa | apply qHb | apply qHc)); exact HO129.out)) (by decide) hg)
        have n5_ := qHs (Kd.R_over' (by (with_reducible repeat (first | apply qHa | apply qHb | apply qHc)); exact HO126.out) (Kd.R_typed (by (with_reducible repeat (first | apply qHa | apply qHb | apply qHc)); exact HO129.out)) (by decide) hg)
        have n6_ := qHs (hb)
        have n7_ := qHs (ho)
        clear BK101
        clear BK102
        clear HO108
        clear HO114
        clear HO120
        clear HO126
        clear HB
        clear HO129
        have BK101 := n0_
        have BK102 := n1_
        have HO108 := n2_
        have HO114 := n3_
        have HO120 := n4_
        have HO126 := n5_
        have HB := n6_
        have HO132 := n7_
        clear n0_ n1_ n2_ n3_ n4_ n5_ n6_ n7_
        clear ho hb hg hat
        obtain ⟨Ao26, co26, eo26⟩ := Kd.R_slice HO132.out
        (first | subst eo26 | (injection eo26 with f1_ f2_ f3_; have f4_ := f1_.symm; have f5_ := f3_.symm; clear f1_ f2_ f3_; subst f4_; subst f5_))
        obtain ⟨Ao27, co27, eo27⟩ := Kd.R_slice HO126.out
        (first | subst eo27 | (injection eo27 with f1_ f2_ f3_; have f4_ := f1_.symm; have f5_ := f3_.symm; clear f1_ f2_ f3_; subst f4_; subst f5_))
        obtain ⟨Ao28, co28, eo28⟩ := Kd.R_slice HO120.out
        (first | subst eo28 | (injection eo28 with f1_ f2_ f3_; have f4_ := f1_.symm; have f5_ := f3_.symm; clear f1_ f2_ f3_; subst f4_; subst f5_))
        obtain ⟨Ao29, co29, eo29⟩ := Kd.R_slice HO114.out
        (first | subst eo29 | (injection eo29 with f1_ f2_ f3_; have f4_ := f1_.symm; have f5_ := f3_.symm; clear f1_ f2_ f3_; subst f4_; subst f5_))
        obtain ⟨Ao30, co30, eo30⟩ := Kd.R_slice HO108.out
        (first | subst eo30 | (injection eo30 with f1_ f2_ f3_; have f4_ := f1_.symm; have f5_ := f3_.symm; clear f1_ f2_ f3_; subst f4_; subst f5_))
        refine hK.out _ _ ⟨v104, .slice Ao30 y106.length co30, v110, .slice Ao29 y112.length co29, v116, .slice Ao28 y118.length co28, v122, .slice Ao27 y124.length co27, v128, .slice Ao26 y130.length co26, m22_, (by rw [ha.out]; exact putSel_upk 15 hb_ rfl rfl rfl), (by (with_reducible repeat (first | refine qHd ?_ _ | refine qHe ?_ | refine qHf ?_ _)); exact BK101.out), fun _ => (by (with_reducible repeat (first | refine qHd ?_ _ | refine qHe ?_ | refine qHf ?_ _)); exact BK102.out), (by repeat (first | (with_reducible first | exact HB.out | apply qHg | apply qHh | apply qHi | refine qHm ?_ GE101.out | refine qHm ?_ GE102.out) | exact HB.out)), fun _ h1_ => absurd ((hon 5 (by kernel_rfl)).symm.trans h1_) (by decide), fun _ => (by (with_reducible repeat (first | apply qHa | apply qHb | apply qHc)); exact HO108.out), fun _ h1_ => absurd ((hon 9 (by kernel_rfl)).symm.trans h1_) (by decide), fun _ => (by (with_reducible repeat (first | apply qHa | apply qHb | apply qHc)); exact HO114.out), fun _ h1_ => absurd ((hon 13 (by kernel_rfl)).symm.trans h1_) (by decide), fun _ => (by (with_reducible repeat (first | apply qHa | apply qHb | apply qHc)); exact HO120.out), fun _ h1_ => absurd ((hon 17 (by kernel_rfl)).symm.trans h1_) (by decide), fun _ => (by (with_reducible repeat (first | apply qHa | apply qHb | apply qHc)); exact HO126.out), fun _ h1_ => absurd ((up_self b 21).symm.trans h1_) (by decide), fun _ => (by (with_reducible repeat (first | apply qHa | apply qHb | apply qHc)); exact HO132.out), fun h0_ => absurd ((hoff 23 (by kernel_rfl)).symm.trans h0_) (by decide), fun h0_ => absurd ((hoff 22 (by kernel_rfl)).symm.trans h0_) (by decide), P1, P2, P3, P4, P5, P6⟩
       refine steps_cons ?_ ?_
       ·rintro b a w' ⟨v104, v107, v110, v113, v116, v119, v122, v125, v128, v131, m22_, ha, Q_BK101, Q_BK102, Q_HB, Q_HO105, Q_HO108, Q_HO111, Q_HO114, Q_HO117, Q_HO120, Q_HO123, Q_HO126, Q_HO129, Q_HO132, Q_BK102_e23, Q_X22_, P1, P2, P3, P4, P5, P6⟩ hb_ hon hoff
        refine ⟨_, rfl, fun K hK => ?_⟩
        have e4 : a.tmps[4]? = some (.string a0_0) := by rw [ha]; exact putSel_on (e := (1, 4, .string a0_0)) 0 rfl rfl (hon 1 (by kernel_rfl)) rfl
        have e8 : a.tmps[8]? = some (v107) := by rw [ha]; exact putSel_on (e := (5, 8, v107)) 3 rfl rfl (hon 5 (by kernel_rfl)) rfl
        have e12 : a.tmps[12]? = some (v113) := by rw [ha]; exact putSel_on (e := (9, 12, v113)) 6 rfl rfl (hon 9 (by kernel_rfl)) rfl
        have e16 : a.tmps[16]? = some (v119) := by rw [ha]; exact putSel_on (e := (13, 16, v119)) 9 rfl rfl (hon 13 (by kernel_rfl)) rfl
        have e20 : a.tmps[20]? = some (v125) := by rw [ha]; exact putSel_on (e := (17, 20, v125)) 12 rfl rfl (hon 17 (by kernel_rfl)) rfl
        have e24 : a.tmps[24]? = some (v131) := by rw [ha]; exact putSel_on (e := (21, 24, v131)) 15 rfl rfl (hon 21 (by kernel_rfl)) rfl
        replace ha := qHs ha
        have BK101 := qHs Q_BK101
        have BK102 := qHs (Q_BK102 (hoff 23 (by kernel_rfl)))
        have HB := qHs Q_HB
        have HO108 := qHs (Q_HO108 (hon 5 (by kernel_rfl)))
        have HO114 := qHs (Q_HO114 (hon 9 (by kernel_rfl)))
        have HO120 := qHs (Q_HO120 (hon 13 (by kernel_rfl)))
        have HO126 := qHs (Q_HO126 (hon 17 (by kernel_rfl)))
        have HO132 := qHs (Q_HO132 (hon 21 (by kernel_rfl)))
        obtain ⟨Ao22_0, co22_0, eo_⟩ := Kd.R_slice HO108.out
        subst eo_
        obtain ⟨Ao22_1, co22_1, eo_⟩ := Kd.R_slice HO114.out
        subst eo_
        obtain ⟨Ao22_2, co22_2, eo_⟩ := Kd.R_slice HO120.out
        subst eo_
        obtain ⟨Ao22_3, co22_3, eo_⟩ := Kd.R_slice HO126.out
        subst eo_
        obtain ⟨Ao22_4, co22_4, eo_⟩ := Kd.R_slice HO132.out
        subst eo_
        refine value_ (w1 := w') (v := .agg #[.string a0_0, .slice Ao22_0 y106.length co22_0, .slice Ao22_1 y112.length co22_1, .slice Ao22_2 y118.length co22_2, .slice Ao22_3 y124.length co22_3, .slice Ao22_4 y130.length co22_4]) (by rfl) rfl ?_ ?_
        ·go_simp
         (try simp only [i64_w])
         try rfl
        refine hK.out _ _ ⟨v104, .slice Ao22_0 y106.length co22_0, v110, .slice Ao22_1 y112.length co22_1, v116, .slice Ao22_2 y118.length co22_2, v122, .slice Ao22_3 y124.length co22_3, v128, .slice Ao22_4 y130.length co22_4, (.agg #[.string a0_0, .slice Ao22_0 y106.length co22_0, .slice Ao22_1 y112.length co22_1, .slice Ao22_2 y118.length co22_2, .slice Ao22_3 y124.length co22_3, .slice Ao22_4 y130.length co22_4]), (by rw [ha.out]; exact putSel_upk 16 hb_ rfl rfl rfl), Q_BK101, Q_BK102, Q_HB, fun _ h1_ => absurd ((hon 5 (by kernel_rfl)).symm.trans h1_) (by decide), Q_HO108, fun _ h1_ => absurd ((hon 9 (by kernel_rfl)).symm.trans h1_) (by decide), Q_HO114, fun _ h1_ => absurd ((hon 13 (by kernel_rfl)).symm.trans h1_) (by decide), Q_HO120, fun _ h1_ => absurd ((hon 17 (by kernel_rfl)).symm.trans h1_) (by decide), Q_HO126, fun _ h1_ => absurd ((hon 21 (by kernel_rfl)).symm.trans h1_) (by decide), Q_HO132, fun h0_ => absurd ((hoff 23 (by kernel_rfl)).symm.trans h0_) (by decide), fun _ => rfl, P1, P2, P3, P4, P5, P6⟩
       refine steps_cons ?_ ?_
       ·rintro b a w' ⟨v104, v107, v110, v113, v116, v119, v122, v125, v128, v131, m22_, ha, Q_BK101, Q_BK102, Q_HB, Q_HO105, Q_HO108, Q_HO111, Q_HO114, Q_HO117, Q_HO120, Q_HO123, Q_HO126, Q_HO129, Q_HO132, Q_BK102_e23, Q_X22_, P1, P2, P3, P4, P5, P6⟩ hb_ hon hoff
        refine ⟨_, rfl, fun K hK => ?_⟩
        have e2 : a.tmps[2]? = some (.pointer (some ⟨gb102, 0, none⟩)) := by rw [ha]; exact (putSel_off rfl).trans rfl
        have e25 : a.tmps[25]? = some (m22_) := by rw [ha]; exact putSel_on (e := (22, 25, m22_)) 16 rfl rfl (hon 22 (by kernel_rfl)) rfl
        rw [Q_X22_ (hon 22 (by kernel_rfl))] at e25
        replace ha := qHs ha
        have BK101 := qHs Q_BK101
        have BK102 := qHs (Q_BK102 hb_)
        have HB := qHs Q_HB
        have HO108 := qHs (Q_HO108 (hon 5 (by kernel_rfl)))
        have HO114 := qHs (Q_HO114 (hon 9 (by kernel_rfl)))
        have HO120 := qHs (Q_HO120 (hon 13 (by kernel_rfl)))
        have HO126 := qHs (Q_HO126 (hon 17 (by kernel_rfl)))
        have HO132 := qHs (Q_HO132 (hon 21 (by kernel_rfl)))
        obtain ⟨Ao31, co31, eo31⟩ := Kd.R_slice HO132.out
        (first | subst eo31 | (injection eo31 with f1_ f2_ f3_; have f4_ := f1_.symm; have f5_ := f3_.symm; clear f1_ f2_ f3_; subst f4_; subst f5_))
        obtain ⟨Ao32, co32, eo32⟩ := Kd.R_slice HO126.out
        (first | subst eo32 | (injection eo32 with f1_ f2_ f3_; have f4_ := f1_.symm; have f5_ := f3_.symm; clear f1_ f2_ f3_; subst f4_; subst f5_))
        obtain ⟨Ao33, co33, eo33⟩ := Kd.R_slice HO120.out
        (first | subst eo33 | (injection eo33 with f1_ f2_ f3_; have f4_ := f1_.symm; have f5_ := f3_.symm; clear f1_ f2_ f3_; subst f4_; subst f5_))
        obtain ⟨Ao34, co34, eo34⟩ := Kd.R_slice HO114.out
        (first | subst eo34 | (injection eo34 with f1_ f2_ f3_; have f4_ := f1_.symm; have f5_ := f3_.symm; clear f1_ f2_ f3_; subst f4_; subst f5_))
        obtain ⟨Ao35, co35, eo35⟩ := Kd.R_slice HO108.out
        (first | subst eo35 | (injection eo35 with f1_ f2_ f3_; have f4_ := f1_.symm; have f5_ := f3_.symm; clear f1_ f2_ f3_; subst f4_; subst f5_))
        have hs36 : w'.cell? ⟨gb102, 0, none⟩ = some (.string (⟨#[]⟩ : ByteArray)) := (blk_cell BK102.out 0).trans rfl
        have hfs36 := blk_frozen BK102.out 0
        have hns36_0 := NB101_102.out
        have hms36_0 := NB102_101.out
        have hs37 : w'.cell? ⟨gb102, 1, none⟩ = some (.slice none 0 0) := (blk_cell BK102.out 1).trans rfl
        have hfs37 := blk_frozen BK102.out 1
        have hns37_0 := NB101_102.out
        have hms37_0 := NB102_101.out
        have hs38 : w'.cell? ⟨gb102, 2, none⟩ = some (.slice none 0 0) := (blk_cell BK102.out 2).trans rfl
        have hfs38 := blk_frozen BK102.out 2
        have hns38_0 := NB101_102.out
        have hms38_0 := NB102_101.out
        have hs39 : w'.cell? ⟨gb102, 3, none⟩ = some (.slice none 0 0) := (blk_cell BK102.out 3).trans rfl
        have hfs39 := blk_frozen BK102.out 3
        have hns39_0 := NB101_102.out
        have hms39_0 := NB102_101.out
        have hs40 : w'.cell? ⟨gb102, 4, none⟩ = some (.slice none 0 0) := (blk_cell BK102.out 4).trans rfl
        have hfs40 := blk_frozen BK102.out 4
        have hns40_0 := NB101_102.out
        have hms40_0 := NB102_101.out
        have hs41 : w'.cell? ⟨gb102, 5, none⟩ = some (.slice none 0 0) := (blk_cell BK102.out 5).trans rfl
        have hfs41 := blk_frozen BK102.out 5
        have hns41_0 := NB101_102.out
        have hms41_0 := NB102_101.out
        refine skip_ (w1 := ?_) (by rfl) rfl ?_ ?_
        rotate_left
        ·go_simp
         rfl
        refine hK.out _ _ ⟨v104, .slice Ao35 y106.length co35, v110, .slice Ao34 y112.length co34, v116, .slice Ao33 y118.length co33, v122, .slice Ao32 y124.length co32, v128, .slice Ao31 y130.length co31, m22_, (by rw [ha.out]; exact putSel_none (v := undef) rfl), (by (with_reducible repeat (first | refine qHd ?_ _ | refine qHe ?_ | refine qHf ?_ _)); refine blk_far ?_ NB101_102.out _; (with_reducible repeat (first | refine qHd ?_ _ | refine qHe ?_ | refine qHf ?_ _)); refine blk_far ?_ NB101_102.out _; (with_reducible repeat (first | refine qHd ?_ _ | refine qHe ?_ | refine qHf ?_ _)); refine blk_far ?_ NB101_102.out _; (with_reducible repeat (first | refine qHd ?_ _ | refine qHe ?_ | refine qHf ?_ _)); refine blk_far ?_ NB101_102.out _; (with_reducible repeat (first | refine qHd ?_ _ | refine qHe ?_ | refine qHf ?_ _)); refine blk_far ?_ NB101_102.out _; (with_reducible repeat (first | refine qHd ?_ _ | refine qHe ?_ | refine qHf ?_ _)); refine blk_far ?_ NB101_102.out _; (with_reducible repeat (first | refine qHd ?_ _ | refine qHe ?_ | refine qHf ?_ _)); exact BK101.out), fun h0_ => absurd ((up_self b 23).symm.trans h0_) (by decide), (by repeat (first | (with_reducible first | exact HB.out | apply qHg | apply qHh | apply qHi | refine qHm ?_ GE101.out | refine qHm ?_ GE102.out) | exact HB.out)), fun _ h1_ => absurd ((hon 5 (by kernel_rfl)).symm.trans h1_) (by decide), fun _ => (by (with_reducible repeat (first | apply qHa | apply qHb | apply qHc)); exact Kd.R_mono (Kd.R_far (p := ⟨gb102, 5, none⟩) (Kd.R_far (p := ⟨gb102, 4, none⟩) (Kd.R_far (p := ⟨gb102, 3, none⟩) (Kd.R_far (p := ⟨gb102, 2, none⟩) (Kd.R_far (p := ⟨gb102, 1, none⟩) (Kd.R_far (p := ⟨gb102, 0, none⟩) (Kd.R_types HO108.out BK102.out (by decide)) (fun _ hk => hk.2) (.string a0_0)) (fun _ hk => hk.2) (.slice Ao35 y106.length co35)) (fun _ hk => hk.2) (.slice Ao34 y112.length co34)) (fun _ hk => hk.2) (.slice Ao33 y118.length co33)) (fun _ hk => hk.2) (.slice Ao32 y124.length co32)) (fun _ hk => hk.2) (.slice Ao31 y130.length co31)) (fun _ hk => hk.1)), fun _ h1_ => absurd ((hon 9 (by kernel_rfl)).symm.trans h1_) (by decide), fun _ => (by (with_reducible repeat (first | apply qHa | apply qHb | apply qHc)); exact Kd.R_mono (Kd.R_far (p := ⟨gb102, 5, none⟩) (Kd.R_far (p := ⟨gb102, 4, none⟩) (Kd.R_far (p := ⟨gb102, 3, none⟩) (Kd.R_far (p := ⟨gb102, 2, none⟩) (Kd.R_far (p := ⟨gb102, 1, none⟩) (Kd.R_far (p := ⟨gb102, 0, none⟩) (Kd.R_types HO114.out BK102.out (by decide)) (fun _ hk => hk.2) (.string a0_0)) (fun _ hk => hk.2) (.slice Ao35 y106.length co35)) (fun _ hk => hk.2) (.slice Ao34 y112.length co34)) (fun _ hk => hk.2) (.slice Ao33 y118.length co33)) (fun _ hk => hk.2) (.slice Ao32 y124.length co32)) (fun _ hk => hk.2) (.slice Ao31 y130.length co31)) (fun _ hk => hk.1)), fun _ h1_ => absurd ((hon 13 (by kernel_rfl)).symm.trans h1_) (by decide), fun _ => (by (with_reducible repeat (first | apply qHa | apply qHb | apply qHc)); exact Kd.R_mono (Kd.R_far (p := ⟨gb102, 5, none⟩) (Kd.R_far (p := ⟨gb102, 4, none⟩) (Kd.R_far (p := ⟨gb102, 3, none⟩) (Kd.R_far (p := ⟨gb102, 2, none⟩) (Kd.R_far (p := ⟨gb102, 1, none⟩) (Kd.R_far (p := ⟨gb102, 0, none⟩) (Kd.R_types HO120.out BK102.out (by decide)) (fun _ hk => hk.2) (.string a0_0)) (fun _ hk => hk.2) (.slice Ao35 y106.length co35)) (fun _ hk => hk.2) (.slice Ao34 y112.length co34)) (fun _ hk => hk.2) (.slice Ao33 y118.length co33)) (fun _ hk => hk.2) (.slice Ao32 y124.length co32)) (fun _ hk => hk.2) (.slice Ao31 y130.length co31)) (fun _ hk => hk.1)), fun _ h1_ => absurd ((hon 17 (by kernel_rfl)).symm.trans h1_) (by decide), fun _ => (by (with_reducible repeat (first | apply qHa | apply qHb | apply qHc)); exact Kd.R_mono (Kd.R_far (p := ⟨gb102, 5, none⟩) (Kd.R_far (p := ⟨gb102, 4, none⟩) (Kd.R_far (p := ⟨gb102, 3, none⟩) (Kd.R_far (p := ⟨gb102, 2, none⟩) (Kd.R_far (p := ⟨gb102, 1, none⟩) (Kd.R_far (p := ⟨gb102, 0, none⟩) (Kd.R_types HO126.out BK102.out (by decide)) (fun _ hk => hk.2) (.string a0_0)) (fun _ hk => hk.2) (.slice Ao35 y106.length co35)) (fun _ hk => hk.2) (.slice Ao34 y112.length co34)) (fun _ hk => hk.2) (.slice Ao33 y118.length co33)) (fun _ hk => hk.2) (.slice Ao32 y124.length co32)) (fun _ hk => hk.2) (.slice Ao31 y130.length co31)) (fun _ hk => hk.1)), fun _ h1_ => absurd ((hon 21 (by kernel_rfl)).symm.trans h1_) (by decide), fun _ => (by (with_reducible repeat (first | apply qHa | apply qHb | apply qHc)); exact Kd.R_mono (Kd.R_far (p := ⟨gb102, 5, none⟩) (Kd.R_far (p := ⟨gb102, 4, none⟩) (Kd.R_far (p := ⟨gb102, 3, none⟩) (Kd.R_far (p := ⟨gb102, 2, none⟩) (Kd.R_far (p := ⟨gb102, 1, none⟩) (Kd.R_far (p := ⟨gb102, 0, none⟩) (Kd.R_types HO132.out BK102.out (by decide)) (fun _ hk => hk.2) (.string a0_0)) (fun _ hk => hk.2) (.slice Ao35 y106.length co35)) (fun _ hk => hk.2) (.slice Ao34 y112.length co34)) (fun _ hk => hk.2) (.slice Ao33 y118.length co33)) (fun _ hk => hk.2) (.slice Ao32 y124.length co32)) (fun _ hk => hk.2) (.slice Ao31 y130.length co31)) (fun _ hk => trivial)), fun _ => (by (with_reducible repeat (first | refine qHd ?_ _ | refine qHe ?_ | refine qHf ?_ _)); refine blk_put (cs := #[.string a0_0, .slice Ao35 y106.length co35, .slice Ao34 y112.length co34, .slice Ao33 y118.length co33, .slice Ao32 y124.length co32, .slice none 0 0]) ?_ 5 _ rfl; (with_reducible repeat (first | refine qHd ?_ _ | refine qHe ?_ | refine qHf ?_ _)); refine blk_put (cs := #[.string a0_0, .slice Ao35 y106.length co35, .slice Ao34 y112.length co34, .slice Ao33 y118.length co33, .slice none 0 0, .slice none 0 0]) ?_ 4 _ rfl; (with_reducible repeat (first | refine qHd ?_ _ | refine qHe ?_ | refine qHf ?_ _)); refine blk_put (cs := #[.string a0_0, .slice Ao35 y106.length co35, .slice Ao34 y112.length co34, .slice none 0 0, .slice none 0 0, .slice none 0 0]) ?_ 3 _ rfl; (with_reducible repeat (first | refine qHd ?_ _ | refine qHe ?_ | refine qHf ?_ _)); refine blk_put (cs := #[.string a0_0, .slice Ao35 y106.length co35, .slice none 0 0, .slice none 0 0, .slice none 0 0, .slice none 0 0]) ?_ 2 _ rfl; (with_reducible repeat (first | refine qHd ?_ _ | refine qHe ?_ | refine qHf ?_ _)); refine blk_put (cs := #[.string a0_0, .slice none 0 0, .slice none 0 0, .slice none 0 0, .slice none 0 0, .slice none 0 0]) ?_ 1 _ rfl; (with_reducible repeat (first | refine qHd ?_ _ | refine qHe ?_ | refine qHf ?_ _)); refine blk_put (cs := #[.string (⟨#[]⟩ : ByteArray), .slice none 0 0, .slice none 0 0, .slice none 0 0, .slice none 0 0, .slice none 0 0]) ?_ 0 _ rfl; (with_reducible repeat (first | refine qHd ?_ _ | refine qHe ?_ | refine qHf ?_ _)); exact BK102.out), Q_X22_, P1, P2, P3, P4, P5, P6⟩
       exact steps_nil
      rintro b a w36 hall ⟨v104, v107, v110, v113, v116, v119, v122, v125, v128, v131, m22_, ha, Q_BK101, Q_BK102, Q_HB, Q_HO105, Q_HO108, Q_HO111, Q_HO114, Q_HO117, Q_HO120, Q_HO123, Q_HO126, Q_HO129, Q_HO132, Q_BK102_e23, Q_X22_, P1, P2, P3, P4, P5, P6⟩
      clear BK101 BK102 HB
      have hb1_ := hall 1 (by kernel_rfl)
      have hb2_ := hall 2 (by kernel_rfl)
      have hb4_ := hall 4 (by kernel_rfl)
      have hb5_ := hall 5 (by kernel_rfl)
      have hb6_ := hall 6 (by kernel_rfl)
      have hb8_ := hall 8 (by kernel_rfl)
      have hb9_ := hall 9 (by kernel_rfl)
      have hb10_ := hall 10 (by kernel_rfl)
      have hb12_ := hall 12 (by kernel_rfl)
      have hb13_ := hall 13 (by kernel_rfl)
      have hb14_ := hall 14 (by kernel_rfl)
      have hb16_ := hall 16 (by kernel_rfl)
      have hb17_ := hall 17 (by kernel_rfl)
      have hb18_ := hall 18 (by kernel_rfl)
      have hb20_ := hall 20 (by kernel_rfl)
      have hb21_ := hall 21 (by kernel_rfl)
      have hb22_ := hall 22 (by kernel_rfl)
      have hb23_ := hall 23 (by kernel_rfl)
      subst ha
      obtain rfl := Q_X22_ hb22_
      have AP3 := P3 hb9_
      have AP6 := P6 hb17_
      clear P1 P2 P3 P4 P5 P6
      simp only [putSel, hb1_, hb2_, hb4_, hb5_, hb6_, hb8_, hb9_, hb10_, hb12_, hb13_, hb14_, hb16_, hb17_, hb18_, hb20_, hb21_, hb22_, hb23_, if_true, Act.put, List.setIfInBounds_toArray, List.set_cons_zero, List.set_cons_succ]
      have BK101 := qHs Q_BK101
      clear Q_BK101
      clear Q_BK102
      have HB := qHs Q_HB
      clear Q_HB
      clear Q_HO105
      have HO108 := qHs (Q_HO108 hb5_)
      clear Q_HO108
      clear Q_HO111
      have HO114 := qHs (Q_HO114 hb9_)
      clear Q_HO114
      clear Q_HO117
      have HO120 := qHs (Q_HO120 hb13_)
      clear Q_HO120
      clear Q_HO123
      have HO126 := qHs (Q_HO126 hb17_)
      clear Q_HO126
      clear Q_HO129
      have HO132 := qHs (Q_HO132 hb21_)
      clear Q_HO132
      have BK102 := qHs (Q_BK102_e23 hb23_)
      clear Q_BK102_e23
      clear hall hb1_ hb2_ hb4_ hb5_ hb6_ hb8_ hb9_ hb10_ hb12_ hb13_ hb14_ hb16_ hb17_ hb18_ hb20_ hb21_ hb22_ hb23_
      obtain ⟨Ao37, co37, eo37⟩ := Kd.R_slice HO132.out
      (first | subst eo37 | (injection eo37 with f1_ f2_ f3_; have f4_ := f1_.symm; have f5_ := f3_.symm; clear f1_ f2_ f3_; subst f4_; subst f5_))
      obtain ⟨Ao38, co38, eo38⟩ := Kd.R_slice HO126.out
      (first | subst eo38 | (injection eo38 with f1_ f2_ f3_; have f4_ := f1_.symm; have f5_ := f3_.symm; clear f1_ f2_ f3_; subst f4_; subst f5_))
      obtain ⟨Ao39, co39, eo39⟩ := Kd.R_slice HO120.out
      (first | subst eo39 | (injection eo39 with f1_ f2_ f3_; have f4_ := f1_.symm; have f5_ := f3_.symm; clear f1_ f2_ f3_; subst f4_; subst f5_))
      obtain ⟨Ao40, co40, eo40⟩ := Kd.R_slice HO114.out
      (first | subst eo40 | (injection eo40 with f1_ f2_ f3_; have f4_ := f1_.symm; have f5_ := f3_.symm; clear f1_ f2_ f3_; subst f4_; subst f5_))
      obtain ⟨Ao41, co41, eo41⟩ := Kd.R_slice HO108.out
      (first | subst eo41 | (injection eo41 with f1_ f2_ f3_; have f4_ := f1_.symm; have f5_ := f3_.symm; clear f1_ f2_ f3_; subst f4_; subst f5_))
      try go_wp2
      refine bodyPost_ret (results_cell_row rfl _ _ gb102 26 #[.string a0_0, .slice Ao41 y106.length co41, .slice Ao40 y112.length co40, .slice Ao39 y118.length co39, .slice Ao38 y124.length co38, .slice Ao37 y130.length co37] (0, 0) _ rfl (by (with_reducible repeat (first | refine qHd ?_ _ | refine qHe ?_ | refine qHf ?_ _)); exact BK102.out) Tryd.underlying26 rfl (by kernel_rfl)) rfl ?_
      exact ⟨_, _, _, _, _, by first | rfl | (simp [errW_none, errW_some] <;> rfl) | (simp [*, errW_none, errW_some] <;> rfl), by (with_reducible repeat (first | apply qHa | apply qHb | apply qHc)); exact Kd.R_flat (fun h => h) HO108.out (fun k hk _ => atom_of AP3 hk), by (with_reducible repeat (first | apply qHa | apply qHb | apply qHc)); exact Kd.R_flat (fun h => h) HO114.out (fun k hk _ => atom_of' AP3 hk), by (with_reducible repeat (first | apply qHa | apply qHb | apply qHc)); exact Kd.R_flat (fun h => h) HO120.out (fun k hk _ => atom_of AP6 hk), by (with_reducible repeat (first | apply qHa | apply qHb | apply qHc)); exact Kd.R_flat (fun h => h) HO126.out (fun k hk _ => atom_of' AP6 hk), by (with_reducible repeat (first | apply qHa | apply qHb | apply qHc)); exact HO132.out, by repeat (first | (with_reducible first | exact HB.out | apply qHg | apply qHh | apply qHi | refine qHm ?_ GE101.out | refine qHm ?_ GE102.out) | exact HB.out)⟩
     ·rw [if_neg c6] at H
      exact absurd H (by simp)
    ·rw [if_neg c5] at H
     exact absurd H (by simp)
   ·rw [if_neg c4] at H
    exact absurd H (by simp)
  ·rw [if_neg c3] at H
   exact absurd H (by simp)
 ·rw [if_neg c2] at H
  exact absurd H (by simp)

end Go.Proofs.YtiphindialkmnaaDoor.X
end
section
namespace Go.Proofs.YtiphindialkmnaaDoor.X
open Go.RowKit Go.Proofs.YtiphindialkmnaaDoorW.PrintWords Go.Proofs.YtiphindialkmnaaDoorW.PrintLast Go.Proofs.YtiphindialkmnaaDoorW.PrintMore
theorem tk {P Q : Prop} (h : P) (g : P → Q := by intro h_; (with_reducible repeat (first | apply Kd.R_alloc | apply Kd.R_drewN | apply Kd.R_drew)); exact h_) : Q := g h
theorem tb {P Q : Prop} (h : P) (g : P → Q := by intro h_; (with_reducible repeat (first | refine blk_drewN ?_ _ | refine blk_drew ?_ | refine blk_alloc ?_ _)); exact h_) : Q := g h
theorem tc {P Q : Prop} (h : P) (g : P → Q := by intro h_; repeat (first | exact h_ | (with_reducible refine Kd.C_alloc ?_ _) | (with_reducible refine Kd.C_drewN ?_ _) | (with_reducible refine Kd.C_drew ?_))) : Q := g h
theorem tg {P Q : Prop} (h : P) (g : P → Q := by intro h_; repeat (first | (with_reducible first | exact h_ | apply below_alloc | apply pw_below_drewN | apply below_drew1) | exact h_)) : Q := g h
theorem tg1 {P Q A : Prop} (h : P) (a : A) (g : P → A → Q := by intro h_ a_; repeat (first | (with_reducible first | exact h_ | apply below_alloc | apply pw_below_drewN | apply below_drew1 | refine below_set ?_ a_) | exact h_)) : Q := g h a
theorem tg2 {P Q A B : Prop} (h : P) (a : A) (b : B) (g : P → A → B → Q := by intro h_ a_ b_; repeat (first | (with_reducible first | exact h_ | apply below_alloc | apply pw_below_drewN | apply below_drew1 | refine below_set ?_ a_ | refine below_set ?_ b_) | exact h_)) : Q := g h a b
theorem tg3 {P Q A B C : Prop} (h : P) (a : A) (b : B) (c : C) (g : P → A → B → C → Q := by intro h_ a_ b_ c_; repeat (first | (with_reducible first | exact h_ | apply below_alloc | apply pw_below_drewN | apply below_drew1 | refine below_set ?_ a_ | refine below_set ?_ b_ | refine below_set ?_ c_) | exact h_)) : Q := g h a b c
theorem tm {P : Prop} (g : P := by (try simp only [List.map_toArray, List.map_cons, List.map_nil]); first | done | rfl | (simp only [List.length_drop, List.length_take]; rfl)) : P := g
theorem cz {w : World} {g : Nat} {t : TypeId} {cs : Array Value} (h : w.heap[g]? = some (.cells cs t (0, 0))) (i : Nat) (v : Value) (e : cs[i]? = some v := by rfl) : w.cell? ⟨g, i, none⟩ = some v := (blk_cell h i).trans e
theorem rc {α : Type} {d : Kd α} {e : Nat} {w : World} {base : Nat} {ok : Nat → Prop} {xs : List α} {A : Option Addr} {n c : Nat} (h : d.R e w base ok (.slice A n c) xs) : d.C w A xs.length xs := (Kd.R_reads' h).2.2
theorem rl {α : Type} {d : Kd α} {e : Nat} {w : World} {base : Nat} {ok : Nat → Prop} {xs : List α} {A : Option Addr} {n c : Nat} (h : d.R e w base ok (.slice A n c) xs) : n ≤ c := (Kd.R_reads' h).2.1
theorem tr {Q : Prop} {α : Type} {d : Kd α} {e : Nat} {w : World} {base : Nat} {ok : Nat → Prop} {xs : List α} {A : Option Addr} {n c : Nat} (h : d.R e w base ok (.slice A n c) xs) (g : d.C w A xs.length xs → Q := by intro h_; repeat (first | exact h_ | (with_reducible refine Kd.C_alloc ?_ _) | (with_reducible refine Kd.C_drewN ?_ _) | (with_reducible refine Kd.C_drew ?_))) : Q := g (Kd.R_reads' h).2.2
theorem ra {α : Type} {d : Kd α} {e : Nat} {w w' w1 : World} {base : Nat} {ok : Nat → Prop} {v : Value} {xs : List α} (h : d.R e w base ok v xs) (hb : Below w'.heap.size w' w1) (g : d.R e w base ok v xs → d.R e w' base ok v xs := by intro h_; (with_reducible repeat (first | apply Kd.R_alloc | apply Kd.R_drewN | apply Kd.R_drew)); exact h_) : Aside0 (d.R e w1 base ok v xs) := ⟨Kd.R_below (g h) hb⟩
theorem ba {w w' w1 : World} {q : Nat} {o : Obj} (h : w.heap[q]? = some o) (hb : Below w'.heap.size w' w1) (g : w.heap[q]? = some o → w'.heap[q]? = some o := by intro h_; (with_reducible repeat (first | refine blk_drewN ?_ _ | refine blk_drew ?_ | refine blk_alloc ?_ _)); exact h_) : Aside0 (w1.heap[q]? = some o) := ⟨blk_below (g h) hb⟩
end Go.Proofs.YtiphindialkmnaaDoor.X
end
