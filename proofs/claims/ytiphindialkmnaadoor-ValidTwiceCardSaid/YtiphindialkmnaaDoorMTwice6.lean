/- Texts that the proof rests on, part 6. -/
import Derived.Test.YtiphindialkmnaaDoorMTwice5
section
namespace Go.Proofs.YtiphindialkmnaaDoor.X
open Go.RowKit Go.Proofs.YtiphindialkmnaaDoorW.PrintWords Go.Proofs.YtiphindialkmnaaDoorW.PrintLast Go.Proofs.YtiphindialkmnaaDoorW.PrintMore
attribute [local go_sem] max2_int min2_int max_two min_two max_three min_three max_four min_four
set_option linter.unusedVariables false
set_option linter.unusedSimpArgs false

theorem apart_after {v u v1 : Value} {n : Nat} (h : v.ownBlock = none ∨ v.ownBlock ≠ u.ownBlock) (hat : v1.ownBlock = v.ownBlock ∨ ∃ b, v1.ownBlock = some b ∧ n ≤ b) (hlt : ∀ k, u.ownBlock = some k → k < n) : v1.ownBlock = none ∨ v1.ownBlock ≠ u.ownBlock := by
 rcases hat with e | ⟨b, e, hb⟩
 ·rw [e]; exact h
 ·right
  rw [e]
  intro e2
  have := hlt b e2.symm
  omega
theorem apart_after' {v u v1 : Value} {n : Nat} (h : v.ownBlock = none ∨ v.ownBlock ≠ u.ownBlock) (hat : v1.ownBlock = u.ownBlock ∨ ∃ b, v1.ownBlock = some b ∧ n ≤ b) (hlt : ∀ k, v.ownBlock = some k → k < n) : v.ownBlock = none ∨ v.ownBlock ≠ v1.ownBlock := by
 rcases hat with e | ⟨b, e, hb⟩
 ·rw [e]; exact h
 ·right
  rw [e]
  intro e2
  have := hlt b e2
  omega
/-! ### budwoodref10_Copy: function 15 -/
def budwoodref10_Copy.f (a0_0 : ByteArray) (l0_1 : List ByteArray) (l0_2 : List ByteArray) (l0_3 : List Int) (l0_4 : List Int) (l0_5 : List (S43)) : Option (ByteArray × List ByteArray × List ByteArray × List Int × List Int × (List (S43))) := (some (([] : List ByteArray) : List ByteArray)).bind fun y103 => (if y103.length + l0_1.length < 8796093022208 then ((some (([] : List ByteArray) : List ByteArray)).bind fun y109 => (if y109.length + l0_2.length < 8796093022208 then ((some (([] : List Int) : List Int)).bind fun y115 => (if y115.length + l0_3.length < 35184372088832 then ((some (([] : List Int) : List Int)).bind fun y121 => (if y121.length + l0_4.length < 35184372088832 then ((some (([] : List (S43)) : List (S43))).bind fun y127 => (if y127.length + l0_5.length < 23456248059221 then (some (a0_0, (y103 ++ l0_1), (y109 ++ l0_2), (y115 ++ l0_3), (y121 ++ l0_4), (y127 ++ l0_5))) else (none))) else (none))) else (none))) else (none))) else (none))
abbrev qHa := @Kd.R_alloc
abbrev qHb := @Kd.R_drewN
abbrev qHc := @Kd.R_drew
abbrev qHd := @blk_drewN
abbrev qHe := @blk_drew
abbrev qHf := @blk_alloc
abbrev qHg := @below_alloc
abbrev qHh := @pw_below_drewN
abbrev qHi := @below_drew1
abbrev qHj := @Kd.C_alloc
abbrev qHk := @Kd.C_drewN
abbrev qHl := @Kd.C_drew
abbrev qHm := @below_set
abbrev qHn := @Kd.R_below
abbrev qHo := @blk_below
abbrev qHp := @below_step
abbrev qHq := @Kd.C_below
abbrev qHs := @Aside0.mk
def budwoodref10_Copy.T1 : Bool × List (List Nat × List Nat) := (true, [([], []), ([0], [0]), ([], []), ([], []), ([3], [3]), ([2, 4], [2, 4]), ([], []), ([], []), ([7], [7]), ([6, 8, 5], [6, 8]), ([], []), ([], []), ([11], [11]), ([10, 12, 9], [10, 12]), ([], []), ([], []), ([15], [15]), ([14, 16, 13], [14, 16]), ([], []), ([], []), ([19], [19]), ([18, 20, 17], [18, 20]), ([1, 5, 9, 13, 17, 21], [1, 5, 9, 13, 17, 21]), ([22, 21, 0, 1, 2, 3, 4, 5, 6, 7, 8, 9, 10, 11, 12, 13, 14, 15, 16, 17, 18, 19, 20, 21, 22], [22])])
def budwoodref10_Copy.B1 : List Nat := [0, 1, 0, 0, 8, 28, 0, 0, 128, 508, 0, 0, 2048, 8188, 0, 0, 32768, 131068, 0, 0, 524288, 2097148, 4194303, 8388607]
theorem budwoodref10_Copy.tab1 : rtab .any (opsOf Tryd.f15 1) = budwoodref10_Copy.T1 := by kernel_rfl
theorem budwoodref10_Copy.bits1 : waitsOk budwoodref10_Copy.T1.2 budwoodref10_Copy.B1 = true := by kernel_rfl
set_option maxHeartbeats 8000000 in
set_option maxRecDepth 100000 in
theorem budwoodref10_Copy.calls (a0_0 : ByteArray) (A0_1 : Option Addr) (c0_1 : Nat) (l0_1 : List ByteArray) (A0_2 : Option Addr) (c0_2 : Nat) (l0_2 : List ByteArray) (A0_3 : Option Addr) (c0_3 : Nat) (l0_3 : List Int) (A0_4 : Option Addr) (c0_4 : Nat) (l0_4 : List Int) (A0_5 : Option Addr) (c0_5 : Nat) (l0_5 : List (S43)) (r1 : ByteArray) (r2 : List ByteArray) (r3 : List ByteArray) (r4 : List Int) (r5 : List Int) (r6 : List (S43)) (w : World) (hr0_1 : Kd.C Kd.string w A0_1 l0_1.length l0_1) (hc0_1 : l0_1.length ≤ c0_1) (hr0_2 : Kd.C Kd.string w A0_2 l0_2.length l0_2) (hc0_2 : l0_2.length ≤ c0_2) (hr0_3 : Kd.C (Kd.int .u32) w A0_3 l0_3.length l0_3) (hc0_3 : l0_3.length ≤ c0_3) (hr0_4 : Kd.C (Kd.int .u32) w A0_4 l0_4.length l0_4) (hc0_4 : l0_4.length ≤ c0_4) (hr0_5 : Kd.C k43 w A0_5 l0_5.length l0_5) (hc0_5 : l0_5.length ≤ c0_5) (h : budwoodref10_Copy.f a0_0 l0_1 l0_2 l0_3 l0_4 l0_5 = some (r1, r2, r3, r4, r5, r6)) :
  Calls Tryd.prog 15 #[.agg #[.string a0_0, .slice A0_1 l0_1.length c0_1, .slice A0_2 l0_2.length c0_2, .slice A0_3 l0_3.length c0_3, .slice A0_4 l0_4.length c0_4, .slice A0_5 l0_5.length c0_5]] w fun e w' => ∃ v1_ v2_ v3_ v4_ v5_ : Value, e = .returned (.agg #[.string r1, v1_, v2_, v3_, v4_, v5_]) ∧ Kd.R Kd.string 9 w' w.heap.size (fun k_ => some k_ ≠ (v2_ : Value).ownBlock) v1_ r2 ∧ Kd.R Kd.string 9 w' w.heap.size (fun k_ => some k_ ≠ (v1_ : Value).ownBlock) v2_ r3 ∧ Kd.R (Kd.int .u32) 44 w' w.heap.size (fun k_ => some k_ ≠ (v4_ : Value).ownBlock) v3_ r4 ∧ Kd.R (Kd.int .u32) 44 w' w.heap.size (fun k_ => some k_ ≠ (v3_ : Value).ownBlock) v4_ r5 ∧ Kd.R k43 43 w' w.heap.size (fun _ => True) v5_ r6 ∧ Below w.heap.size w w' := by
 have hu26 := Tryd.underlying26
 have HR0_1 := qHs hr0_1
 have HC0_1 := qHs hc0_1
 clear hr0_1 hc0_1
 have HR0_2 := qHs hr0_2
 have HC0_2 := qHs hc0_2
 clear hr0_2 hc0_2
 have HR0_3 := qHs hr0_3
 have HC0_3 := qHs hc0_3
 clear hr0_3 hc0_3
 have HR0_4 := qHs hr0_4
 have HC0_4 := qHs hc0_4
 clear hr0_4 hc0_4
 have HR0_5 := qHs hr0_5
 have HC0_5 := qHs hc0_5
 clear hr0_5 hc0_5
 have HB := qHs (Below.refl w.heap.size w)
 have H : ((some (([] : List ByteArray) : List ByteArray)).bind fun y103 => (if y103.length + l0_1.length < 8796093022208 then ((some (([] : List ByteArray) : List ByteArray)).bind fun y109 => (if y109.length + l0_2.length < 8796093022208 then ((some (([] : List Int) : List Int)).bind fun y115 => (if y115.length + l0_3.length < 35184372088832 then ((some (([] : List Int) : List Int)).bind fun y121 => (if y121.length + l0_4.length < 35184372088832 then ((some (([] : List (S43)) : List (S43))).bind fun y127 => (if y127.length + l0_5.length < 23456248059221 then (some (a0_0, (y103 ++ l0_1), (y109 ++ l0_2), (y115 ++ l0_3), (y121 ++ l0_4), (y127 ++ l0_5))) else (none))) else (none))) else (none))) else (none))) else (none))) = some (r1, r2, r3, r4, r5, r6) := h
 clear h
 obtain ⟨y103, hy103⟩ : ∃ y_ : List ByteArray, y_ = (([] : List ByteArray)) := ⟨_, rfl⟩
 replace H : (if y103.length + l0_1.length < 8796093022208 then ((some (([] : List ByteArray) : List ByteArray)).bind fun y109 => (if y109.length + l0_2.length < 8796093022208 then ((some (([] : List Int) : List Int)).bind fun y115 => (if y115.length + l0_3.length < 35184372088832 then ((some (([] : List Int) : List Int)).bind fun y121 => (if y121.length + l0_4.length < 35184372088832 then ((some (([] : List (S43)) : List (S43))).bind fun y127 => (if y127.length + l0_5.length < 23456248059221 then (some (a0_0, (y103 ++ l0_1), (y109 ++ l0_2), (y115 ++ l0_3), (y121 ++ l0_4), (y127 ++ l0_5))) else (none))) else (none))) else (none))) else (none))) else (none)) = some (r1, r2, r3, r4, r5, r6) := by first | (rw [hy103]; with_reducible exact H) | (have H2_ := (Option.bind_some _ _).symm.trans H; rw [hy103]; with_reducible exact H2_) | (have H2_ := (Option.bind_some _ _).symm.trans H; with_reducible exact H2_) | with_reducible exact H | (rw [hy103]; exact H) | exact H
 have Ny103 := qHs hy103
 clear hy103
 by_cases c2 : y103.length + l0_1.length < 8796093022208
 ·rw [if_pos c2] at H
  have LMc2 := qHs c2
  clear c2
  obtain ⟨y106, hy106⟩ : ∃ y_ : List ByteArray, y_ = (y103 ++ l0_1) := ⟨_, rfl⟩
  replace H : ((some (([] : List ByteArray) : List ByteArray)).bind fun y109 => (if y109.length + l0_2.length < 8796093022208 then ((some (([] : List Int) : List Int)).bind fun y115 => (if y115.length + l0_3.length < 35184372088832 then ((some (([] : List Int) : List Int)).bind fun y121 => (if y121.length + l0_4.length < 35184372088832 then ((some (([] : List (S43)) : List (S43))).bind fun y127 => (if y127.length + l0_5.length < 23456248059221 then (some (a0_0, y106, (y109 ++ l0_2), (y115 ++ l0_3), (y121 ++ l0_4), (y127 ++ l0_5))) else (none))) else (none))) else (none))) else (none))) = some (r1, r2, r3, r4, r5, r6) := by first | (rw [hy106]; with_reducible exact H) | (have H2_ := (Option.bind_some _ _).symm.trans H; rw [hy106]; with_reducible exact H2_) | (have H2_ := (Option.bind_some _ _).symm.trans H; with_reducible exact H2_) | with_reducible exact H | (rw [hy106]; exact H) | exact H
  have Ny106 := qHs hy106
  clear hy106
  obtain ⟨y109, hy109⟩ : ∃ y_ : List ByteArray, y_ = (([] : List ByteArray)) := ⟨_, rfl⟩
  replace H : (if y109.length + l0_2.length < 8796093022208 then ((some (([] : List Int) : List Int)).bind fun y115 => (if y115.length + l0_3.length < 35184372088832 then ((some (([] : List Int) : List Int)).bind fun y121 => (if y121.length + l0_4.length < 35184372088832 then ((some (([] : List (S43)) : List (S43))).bind fun y127 => (if y127.length + l0_5.length < 23456248059221 then (some (a0_0, y106, (y109 ++ l0_2), (y115 ++ l0_3), (y121 ++ l0_4), (y127 ++ l0_5))) else (none))) else (none))) else (none))) else (none)) = some (r1, r2, r3, r4, r5, r6) := by first | (rw [hy109]; with_reducible exact H) | (have H2_ := (Option.bind_some _ _).symm.trans H; rw [hy109]; with_reducible exact H2_) | (have H2_ := (Option.bind_some _ _).symm.trans H; with_reducible exact H2_) | with_reducible exact H | (rw [hy109]; exact H) | exact H
  have Ny109 := qHs hy109
  clear hy109
  by_cases c3 : y109.length + l0_2.length < 8796093022208
  ·rw [if_pos c3] at H
   have LMc3 := qHs c3
   clear c3
   obtain ⟨y112, hy112⟩ : ∃ y_ : List ByteArray, y_ = (y109 ++ l0_2) := ⟨_, rfl⟩
   replace H : ((some (([] : List Int) : List Int)).bind fun y115 => (if y115.length + l0_3.length < 35184372088832 then ((some (([] : List Int) : List Int)).bind fun y121 => (if y121.length + l0_4.length < 35184372088832 then ((some (([] : List (S43)) : List (S43))).bind fun y127 => (if y127.length + l0_5.length < 23456248059221 then (some (a0_0, y106, y112, (y115 ++ l0_3), (y121 ++ l0_4), (y127 ++ l0_5))) else (none))) else (none))) else (none))) = some (r1, r2, r3, r4, r5, r6) := by first | (rw [hy112]; with_reducible exact H) | (have H2_ := (Option.bind_some _ _).symm.trans H; rw [hy112]; with_reducible exact H2_) | (have H2_ := (Option.bind_some _ _).symm.trans H; with_reducible exact H2_) | with_reducible exact H | (rw [hy112]; exact H) | exact H
   have Ny112 := qHs hy112
   clear hy112
   obtain ⟨y115, hy115⟩ : ∃ y_ : List Int, y_ = (([] : List Int)) := ⟨_, rfl⟩
   replace H : (if y115.length + l0_3.length < 35184372088832 then ((some (([] : List Int) : List Int)).bind fun y121 => (if y121.length + l0_4.length < 35184372088832 then ((some (([] : List (S43)) : List (S43))).bind fun y127 => (if y127.length + l0_5.length < 23456248059221 then (some (a0_0, y106, y112, (y115 ++ l0_3), (y121 ++ l0_4), (y127 ++ l0_5))) else (none))) else (none))) else (none)) = some (r1, r2, r3, r4, r5, r6) := by first | (rw [hy115]; with_reducible exact H) | (have H2_ := (Option.bind_some _ _).symm.trans H; rw [hy115]; with_reducible exact H2_) | (have H2_ := (Option.bind_some _ _).symm.trans H; with_reducible exact H2_) | with_reducible exact H | (rw [hy115]; exact H) | exact H
   have Ny115 := qHs hy115
   clear hy115
   by_cases c4 : y115.length + l0_3.length < 35184372088832
   ·rw [if_pos c4] at H
    have LMc4 := qHs c4
    clear c4
    obtain ⟨y118, hy118⟩ : ∃ y_ : List Int, y_ = (y115 ++ l0_3) := ⟨_, rfl⟩
    replace H : ((some (([] : List Int) : List Int)).bind fun y121 => (if y121.length + l0_4.length < 35184372088832 then ((some (([] : List (S43)) : List (S43))).bind fun y127 => (if y127.length + l0_5.length < 23456248059221 then (some (a0_0, y106, y112, y118, (y121 ++ l0_4), (y127 ++ l0_5))) else (none))) else (none))) = some (r1, r2, r3, r4, r5, r6) := by first | (rw [hy118]; with_reducible exact H) | (have H2_ := (Option.bind_some _ _).symm.trans H; rw [hy118]; with_reducible exact H2_) | (have H2_ := (Option.bind_some _ _).symm.trans H; with_reducible exact H2_) | with_reducible exact H | (rw [hy118]; exact H) | exact H
    have Ny118 := qHs hy118
    clear hy118
    obtain ⟨y121, hy121⟩ : ∃ y_ : List Int, y_ = (([] : List Int)) := ⟨_, rfl⟩
    replace H : (if y121.length + l0_4.length < 35184372088832 then ((some (([] : List (S43)) : List (S43))).bind fun y127 => (if y127.length + l0_5.length < 23456248059221 then (some (a0_0, y106, y112, y118, (y121 ++ l0_4), (y127 ++ l0_5))) else (none))) else (none)) = some (r1, r2, r3, r4, r5, r6) := by first | (rw [hy121]; with_reducible exact H) | (have H2_ := (Option.bind_some _ _).symm.trans H; rw [hy121]; with_reducible exact H2_) | (have H2_ := (Option.bind_some _ _).symm.trans H; with_reducible exact H2_) | with_reducible exact H | (rw [hy121]; exact H) | exact H
    have Ny121 := qHs hy121
    clear hy121
    by_cases c5 : y121.length + l0_4.length < 35184372088832
    ·rw [if_pos c5] at H
     have LMc5 := qHs c5
     clear c5
     obtain ⟨y124, hy124⟩ : ∃ y_ : List Int, y_ = (y121 ++ l0_4) := ⟨_, rfl⟩
     replace H : ((some (([] : List (S43)) : List (S43))).bind fun y127 => (if y127.length + l0_5.length < 23456248059221 then (some (a0_0, y106, y112, y118, y124, (y127 ++ l0_5))) else (none))) = some (r1, r2, r3, r4, r5, r6) := by first | (rw [hy124]; with_reducible exact H) | (have H2_ := (Option.bind_some _ _).symm.trans H; rw [hy124]; with_reducible exact H2_) | (have H2_ := (Option.bind_some _ _).symm.trans H; with_reducible exact H2_) | with_reducible exact H | (rw [hy124]; exact H) | exact H
     have Ny124 := qHs hy124
     clear hy124
     obtain ⟨y127, hy127⟩ : ∃ y_ : List (S43), y_ = (([] : List (S43))) := ⟨_, rfl⟩
     replace H : (if y127.length + l0_5.length < 23456248059221 then (some (a0_0, y106, y112, y118, y124, (y127 ++ l0_5))) else (none)) = some (r1, r2, r3, r4, r5, r6) := by first | (rw [hy127]; with_reducible exact H) | (have H2_ := (Option.bind_some _ _).symm.trans H; rw [hy127]; with_reducible exact H2_) | (have H2_ := (Option.bind_some _ _).symm.trans H; with_reducible exact H2_) | with_reducible exact H | (rw [hy127]; exact H) | exact H
     have Ny127 := qHs hy127
     clear hy127
     by_cases c6 : y127.length + l0_5.length < 23456248059221
     ·rw [if_pos c6] at H
      have LMc6 := qHs c6
      clear c6
      obtain ⟨y130, hy130⟩ : ∃ y_ : List (S43), y_ = (y127 ++ l0_5) := ⟨_, rfl⟩
      replace H : (some (a0_0, y106, y112, y118, y124, y130)) = some (r1, r2, r3, r4, r5, r6) := by first | (rw [hy130]; with_reducible exact H) | (have H2_ := (Option.bind_some _ _).symm.trans H; rw [hy130]; with_reducible exact H2_) | (have H2_ := (Option.bind_some _ _).symm.trans H; with_reducible exact H2_) | with_reducible exact H | (rw [hy130]; exact H) | exact H
      have Ny130 := qHs hy130
      clear hy130
      simp only [Option.some.injEq, Prod.mk.injEq] at H
      obtain ⟨rfl, rfl, rfl, rfl, rfl, rfl⟩ := H
      go_enter Tryd.func15, Tryd.ntmps15
      try go_wp2_with (first | ((with_reducible refine gate_dst (N := 1) rfl ?_); refine box_event ?hg (N := 1) ?hd (cs := #[.string a0_0, .slice A0_1 l0_1.length c0_1, .slice A0_2 l0_2.length c0_2, .slice A0_3 l0_3.length c0_3, .slice A0_4 l0_4.length c0_4, .slice A0_5 l0_5.length c0_5]) (t := 26) ?hr ?_; (case hd => rfl); (case hg => rfl); (case hr => first | (go_simp; done) | (go_simp; rfl)); intro gb101 hg w7 hbox hb; have n0_ := qHs (qHp (by repeat (first | (with_reducible first | exact HB.out | apply qHg | apply qHh | apply qHi) | exact HB.out)) hb); have n1_ := qHs (hbox); have n2_ := qHs ((by rw [hg]; exact (below_size (by repeat (first | (with_reducible first | exact HB.out | apply qHg | apply qHh | apply qHi) | exact HB.out))) : w.heap.size ≤ gb101)); have n3_ := qHs ((by rw [hg]; exact (below_size (by repeat (first | (with_reducible first | exact HB.out | apply qHg | apply qHh | apply qHi) | exact HB.out))) : w.heap.size ≤ gb101)); clear HB; have HB := n0_; have BK101 := n1_; have GW101 := n2_; have GE101 := n3_; clear n0_ n1_ n2_ n3_; clear hb hbox hg) | ((with_reducible refine gate_dst (N := 2) rfl ?_); refine box_event ?hg (N := 2) ?hd (cs := #[.string (⟨#[]⟩ : ByteArray), .slice none 0 0, .slice none 0 0, .slice none 0 0, .slice none 0 0, .slice none 0 0]) (t := 26) ?hr ?_; (case hd => rfl); (case hg => rfl); (case hr => first | (go_simp; done) | (go_simp; rfl)); intro gb102 hg w8 hbox hb; have n0_ := qHs (qHo (g := gb101) (o := .cells #[.string a0_0, .slice A0_1 l0_1.length c0_1, .slice A0_2 l0_2.length c0_2, .slice A0_3 l0_3.length c0_3, .slice A0_4 l0_4.length c0_4, .slice A0_5 l0_5.length c0_5] 26 (0, 0)) (by (with_reducible repeat (first | refine qHd ?_ _ | refine qHe ?_ | refine qHf ?_ _)); exact BK101.out) hb); have n1_ := qHs (qHp (by repeat (first | (with_reducible first | exact HB.out | apply qHg | apply qHh | apply qHi | refine qHm ?_ GE101.out) | exact HB.out)) hb); have n2_ := qHs (hbox); have n3_ := qHs ((by rw [hg]; exact (below_size (by repeat (first | (with_reducible first | exact HB.out | apply qHg | apply qHh | apply qHi | refine qHm ?_ GE101.out) | exact HB.out))) : w.heap.size ≤ gb102)); have n4_ := qHs ((by rw [hg]; exact (below_size (by repeat (first | (with_reducible first | exact HB.out | apply qHg | apply qHh | apply qHi | refine qHm ?_ GE101.out) | exact HB.out))) : w.heap.size ≤ gb102)); have n5_ := qHs ((by rw [hg]; exact Nat.ne_of_lt (blk_lt (g := gb101) (o := .cells #[.string a0_0, .slice A0_1 l0_1.length c0_1, .slice A0_2 l0_2.length c0_2, .slice A0_3 l0_3.length c0_3, .slice A0_4 l0_4.length c0_4, .slice A0_5 l0_5.length c0_5] 26 (0, 0)) (by (with_reducible repeat (first | refine qHd ?_ _ | refine qHe ?_ | refine qHf ?_ _)); exact BK101.out)) : gb101 ≠ gb102)); have n6_ := qHs ((by rw [hg]; exact Nat.ne_of_gt (blk_lt (g := gb101) (o := .cells #[.string a0_0, .slice A0_1 l0_1.length c0_1, .slice A0_2 l0_2.length c0_2, .slice A0_3 l0_3.length c0_3, .slice A0_4 l0_4.length c0_4, .slice A0_5 l0_5.length c0_5] 26 (0, 0)) (by (with_reducible repeat (first | refine qHd ?_ _ | refine qHe ?_ | refine qHf ?_ _)); exact BK101.out)) : gb102 ≠ gb101)); clear BK101; clear HB; have BK101 := n0_; have HB := n1_; have BK102 := n2_; have GW102 := n3_; have GE102 := n4_; have NB101_102 := n5_; have NB102_101 := n6_; clear n0_ n1_ n2_ n3_ n4_ n5_ n6_; clear hb hbox hg))
      have n0_ := qHs (qHe BK101.out)
      have n1_ := qHs (qHe BK102.out)
      have n2_ := qHs (qHi HB.out)
      clear BK101
      clear BK102
      clear HB
      have BK101 := n0_
      have BK102 := n1_
      have HB := n2_
      clear n0_ n1_ n2_
      refine start_ (n := 24) (S := fun w' => True) (ds := []) #[false, false, false, false, false, false, false, false, false, false, false, false, false, false, false, false, false, false, false, false, false, false, false, false] (by kernel_rfl) rfl rfl trivial (fun hHeld => ?_); refine with_tabW budwoodref10_Copy.tab1 budwoodref10_Copy.bits1 (fun HT_ HW_ => ?_)
      generalize w8.drew = w9 at BK101 BK102 HB hHeld ⊢
      refine pure_ (i := 0) (N := some 3) (v := ?_) (a' := ?_) #[true, false, false, false, false, false, false, false, false, false, false, false, false, false, false, false, false, false, false, false, false, false, false, false] rfl rfl (any_of HT_.out (by kernel_rfl)) (fun _ _ _ h => h) (Or.inl ⟨by rfl, ?_⟩) ?_ ?_
      rotate_left
      ·intro w'
       go_simp
       with_reducible rfl
      rotate_left
      ·simp only [Act.put, List.setIfInBounds_toArray, List.set_cons_zero, List.set_cons_succ, i64_w, i32_w]
       rfl
      refine pure_ (i := 3) (N := some 6) (v := ?_) (a' := ?_) #[true, false, false, true, false, false, false, false, false, false, false, false, false, false, false, false, false, false, false, false, false, false, false, false] rfl rfl (any_of HT_.out (by kernel_rfl)) (fun _ _ _ h => h) (Or.inl ⟨by rfl, ?_⟩) ?_ ?_
      rotate_left
      ·intro w'
       go_simp
       with_reducible rfl
      rotate_left
      ·simp only [Act.put, List.setIfInBounds_toArray, List.set_cons_zero, List.set_cons_succ, i64_w, i32_w]
       rfl
      refine pure_ (i := 7) (N := some 10) (v := ?_) (a' := ?_) #[true, false, false, true, false, false, false, true, false, false, false, false, false, false, false, false, false, false, false, false, false, false, false, false] rfl rfl (any_of HT_.out (by kernel_rfl)) (fun _ _ _ h => h) (Or.inl ⟨by rfl, ?_⟩) ?_ ?_
      rotate_left
      ·intro w'
       go_simp
       with_reducible rfl
      rotate_left
      ·simp only [Act.put, List.setIfInBounds_toArray, List.set_cons_zero, List.set_cons_succ, i64_w, i32_w]
       rfl
      refine pure_ (i := 11) (N := some 14) (v := ?_) (a' := ?_) #[true, false, false, true, false, false, false, true, false, false, false, true, false, false, false, false, false, false, false, false, false, false, false, false] rfl rfl (any_of HT_.out (by kernel_rfl)) (fun _ _ _ h => h) (Or.inl ⟨by rfl, ?_⟩) ?_ ?_
      rotate_left
      ·intro w'
       go_simp
       with_reducible rfl
      rotate_left
      ·simp only [Act.put, List.setIfInBounds_toArray, List.set_cons_zero, List.set_cons_succ, i64_w, i32_w]
       rfl
      refine pure_ (i := 15) (N := some 18) (v := ?_) (a' := ?_) #[true, false, false, true, false, false, false, true, false, false, false, true, false, false, false, true, false, false, false, false, false, false, false, false] rfl rfl (any_of HT_.out (by kernel_rfl)) (fun _ _ _ h => h) (Or.inl ⟨by rfl, ?_⟩) ?_ ?_
      rotate_left
      ·intro w'
       go_simp
       with_reducible rfl
      rotate_left
      ·simp only [Act.put, List.setIfInBounds_toArray, List.set_cons_zero, List.set_cons_succ, i64_w, i32_w]
       rfl
      refine pure_ (i := 19) (N := some 22) (v := ?_) (a' := ?_) #[true, false, false, true, false, false, false, true, false, false, false, true, false, false, false, true, false, false, false, true, false, false, false, false] rfl rfl (any_of HT_.out (by kernel_rfl)) (fun _ _ _ h => h) (Or.inl ⟨by rfl, ?_⟩) ?_ ?_
      rotate_left
      ·intro w'
       go_simp
       with_reducible rfl
      rotate_left
      ·simp only [Act.put, List.setIfInBounds_toArray, List.set_cons_zero, List.set_cons_succ, i64_w, i32_w]
       rfl
      refine inv_at [1, 2, 4, 5, 6, 8, 9, 10, 12, 13, 14, 16, 17, 18, 20, 21, 22, 23] (fun a0_ b a w' => ∃ (v104 : Value) (v107 : Value) (v110 : Value) (v113 : Value) (v116 : Value) (v119 : Value) (v122 : Value) (v125 : Value) (v128 : Value) (v131 : Value) (m22_ : Value), a = putSel a0_ b [(1, 4, .string a0_0), (2, 5, v104), (4, 7, .slice A0_1 l0_1.length c0_1), (5, 8, v107), (6, 9, v110), (8, 11, .slice A0_2 l0_2.length c0_2), (9, 12, v113), (10, 13, v116), (12, 15, .slice A0_3 l0_3.length c0_3), (13, 16, v119), (14, 17, v122), (16, 19, .slice A0_4 l0_4.length c0_4), (17, 20, v125), (18, 21, v128), (20, 23, .slice A0_5 l0_5.length c0_5), (21, 24, v131), (22, 25, m22_)] ∧ (w'.heap[gb101]? = some (.cells #[.string a0_0, .slice A0_1 l0_1.length c0_1, .slice A0_2 l0_2.length c0_2, .slice A0_3 l0_3.length c0_3, .slice A0_4 l0_4.length c0_4, .slice A0_5 l0_5.length c0_5] 26 (0, 0))) ∧ (b 23 = false → w'.heap[gb102]? = some (.cells #[.string (⟨#[]⟩ : ByteArray), .slice none 0 0, .slice none 0 0, .slice none 0 0, .slice none 0 0, .slice none 0 0] 26 (0, 0))) ∧ (Below w.heap.size w w') ∧ (b 2 = true → b 5 = false → Kd.R Kd.string 9 w' w.heap.size (fun _ => True) v104 y103) ∧ (b 5 = true → Kd.R Kd.string 9 w' w.heap.size (fun _ => True) v107 y106) ∧ (b 6 = true → b 9 = false → Kd.R Kd.string 9 w' w.heap.size (fun _ => True) v110 y109) ∧ (b 9 = true → Kd.R Kd.string 9 w' w.heap.size (fun _ => True) v113 y112) ∧ (b 10 = true → b 13 = false → Kd.R (Kd.int .u32) 44 w' w.heap.size (fun _ => True) v116 y115) ∧ (b 13 = true → Kd.R (Kd.int .u32) 44 w' w.heap.size (fun _ => True) v119 y118) ∧ (b 14 = true → b 17 = false → Kd.R (Kd.int .u32) 44 w' w.heap.size (fun _ => True) v122 y121) ∧ (b 17 = true → Kd.R (Kd.int .u32) 44 w' w.heap.size (fun _ => True) v125 y124) ∧ (b 18 = true → b 21 = false → Kd.R k43 43 w' w.heap.size (fun _ => True) v128 y127) ∧ (b 21 = true → Kd.R k43 43 w' w.heap.size (fun _ => True) v131 y130) ∧ (b 23 = true → w'.heap[gb102]? = some (.cells #[.string a0_0, v107, v113, v119, v125, v131] 26 (0, 0))) ∧ (b 22 = true → (m22_ : Value) = .agg #[.string a0_0, v107, v113, v119, v125, v131]) ∧ (b 2 = true → b 5 = false → b 6 = true → b 9 = false → ((v104 : Value).ownBlock = none ∨ (v104 : Value).ownBlock ≠ (v110 : Value).ownBlock)) ∧ (b 5 = true → b 6 = true → b 9 = false → ((v107 : Value).ownBlock = none ∨ (v107 : Value).ownBlock ≠ (v110 : Value).ownBlock)) ∧ (b 9 = true → ((v107 : Value).ownBlock = none ∨ (v107 : Value).ownBlock ≠ (v113 : Value).ownBlock)) ∧ (b 10 = true → b 13 = false → b 14 = true → b 17 = false → ((v116 : Value).ownBlock = none ∨ (v116 : Value).ownBlock ≠ (v122 : Value).ownBlock)) ∧ (b 13 = true → b 14 = true → b 17 = false → ((v119 : Value).ownBlock = none ∨ (v119 : Value).ownBlock ≠ (v122 : Value).ownBlock)) ∧ (b 17 = true → ((v119 : Value).ownBlock = none ∨ (v119 : Value).ownBlock ≠ (v125 : Value).ownBlock))) HT_.out HW_.out (by kernel_rfl) (by kernel_rfl) ?_ ?_ ?_
      ·exact ⟨.bool false, .bool false, .bool false, .bool false, .bool false, .bool false, .bool false, .bool false, .bool false, .bool false, .bool false, by simp only [putSel, Bool.false_eq_true, if_false], BK101.out, fun _ => BK102.out, HB.out, fun h_ => absurd h_ (by decide), fun h_ => absurd h_ (by decide), fun h_ => absurd h_ (by decide), fun h_ => absurd h_ (by decide), fun h_ => absurd h_ (by decide), fun h_ => absurd h_ (by decide), fun h_ => absurd h_ (by decide), fun h_ => absurd h_ (by decide), fun h_ => absurd h_ (by decide), fun h_ => absurd h_ (by decide), fun h_ => absurd h_ (by decide), fun h_ => absurd h_ (by decide), fun h_ _ _ _ => absurd h_ (by decide), fun h_ _ _ => absurd h_ (by decide), fun h_ => absurd h_ (by decide), fun h_ _ _ _ => absurd h_ (by decide), fun h_ _ _ => absurd h_ (by decide), fun h_ => absurd h_ (by decide)⟩
      ·skip
       clear BK101 BK102 HB
       refine steps_cons ?_ ?_
       ·rintro b a w' ⟨v104, v107, v110, v113, v116, v119, v122, v125, v128, v131, m22_, ha, Q_BK101, Q_BK102, Q_HB, Q_HO105, Q_HO108, Q_HO111, Q_HO114, Q_HO117, Q_HO120, Q_HO123, Q_HO126, Q_HO129, Q_HO132, Q_BK102_e23, Q_X22_, P1, P2, P3, P4, P5, P6⟩ hb_ hon hoff
        refine ⟨_, rfl, fun K hK => ?_⟩
        have e3 : a.tmps[3]? = some (.pointer (some ⟨gb101, 0, none⟩)) := by rw [ha]; exact (putSel_off rfl).trans rfl
        replace ha := qHs ha
        have BK101 := qHs Q_BK101
        have BK102 := qHs (Q_BK102 (hoff 23 (by kernel_rfl)))
        have HB := qHs Q_HB
        have hc0_ : w'.cell? ⟨gb101, 0, none⟩ = some (.string a0_0) := (blk_cell BK101.out 0).trans rfl
        have hc1_ : w'.cell? ⟨gb101, 1, none⟩ = some (.slice A0_1 l0_1.length c0_1) := (blk_cell BK101.out 1).trans rfl
        have hc2_ : w'.cell? ⟨gb101, 2, none⟩ = some (.slice A0_2 l0_2.length c0_2) := (blk_cell BK101.out 2).trans rfl
        have hc3_ : w'.cell? ⟨gb101, 3, none⟩ = some (.slice A0_3 l0_3.length c0_3) := (blk_cell BK101.out 3).trans rfl
        have hc4_ : w'.cell? ⟨gb101, 4, none⟩ = some (.slice A0_4 l0_4.length c0_4) := (blk_cell BK101.out 4).trans rfl
        have hc5_ : w'.cell? ⟨gb101, 5, none⟩ = some (.slice A0_5 l0_5.length c0_5) := (blk_cell BK101.out 5).trans rfl
        refine value_ (w1 := w') (v := .string a0_0) (by rfl) rfl ?_ ?_
        ·go_simp
         (try simp only [i64_w])
         try rfl
        refine hK.out _ _ ⟨v104, v107, v110, v113, v116, v119, v122, v125, v128, v131, m22_, (by rw [ha.out]; exact putSel_upk 0 hb_ rfl rfl rfl), Q_BK101, Q_BK102, Q_HB, Q_HO105, Q_HO108, Q_HO111, Q_HO114, Q_HO117, Q_HO120, Q_HO123, Q_HO126, Q_HO129, Q_HO132, fun h0_ => absurd ((hoff 23 (by kernel_rfl)).symm.trans h0_) (by decide), fun h0_ => absurd ((hoff 22 (by kernel_rfl)).symm.trans h0_) (by decide), P1, P2, P3, P4, P5, P6⟩
       refine steps_cons ?_ ?_
       ·rintro b a w' ⟨v104, v107, v110, v113, v116, v119, v122, v125, v128, v131, m22_, ha, Q_BK101, Q_BK102, Q_HB, Q_HO105, Q_HO108, Q_HO111, Q_HO114, Q_HO117, Q_HO120, Q_HO123, Q_HO126, Q_HO129, Q_HO132, Q_BK102_e23, Q_X22_, P1, P2, P3, P4, P5, P6⟩ hb_ hon hoff
        refine ⟨_, rfl, fun K hK => ?_⟩
        replace ha := qHs ha
        have BK101 := qHs Q_BK101
        have BK102 := qHs (Q_BK102 (hoff 23 (by kernel_rfl)))
        have HB := qHs Q_HB
        refine Kd.R_lit_step Kd.string _ 9 ?hg (N := 5) ?hd (xs := ([] : List ByteArray)) (inner := []) (ok := fun _ => True) (okp := fun _ => True) ?hr ?hp (fun _ hk => hk) trivial (Below.refl _ _) (Nat.le_refl _) (by simp) ?_; (case hd => rfl); (case hg => rfl); (case hr => first | (go_simp; done) | (go_simp; rfl)); (case hp => exact (Reps.none _ _))
        intro v104 w10 ho11 hb hg_ hnew_
        have N1 := fun (_ : up b 2 2 = true) (_ : b 5 = false) (h6_ : b 6 = true) (h9_ : b 9 = false) => own_apart' (Kd.R_base ho11) (Kd.R_lt (Q_HO111 h6_ h9_))
        clear hg_ hnew_
        (first | rw [← Ny103.out] at ho11 | (simp only [Int.reduceToNat] at ho11; rw [← Ny103.out] at ho11))
        have n0_ := qHs (Kd.R_lower ho11 (below_size (by repeat (first | (with_reducible first | exact HB.out | apply qHg | apply qHh | apply qHi | refine qHm ?_ GE101.out | refine qHm ?_ GE102.out) | exact HB.out))))
        have n1_ := qHs (qHo (g := gb101) (o := .cells #[.string a0_0, .slice A0_1 l0_1.length c0_1, .slice A0_2 l0_2.length c0_2, .slice A0_3 l0_3.length c0_3, .slice A0_4 l0_4.length c0_4, .slice A0_5 l0_5.length c0_5] 26 (0, 0)) (by (with_reducible repeat (first | refine qHd ?_ _ | refine qHe ?_ | refine qHf ?_ _)); exact BK101.out) hb)
        have n2_ := qHs (qHo (g := gb102) (o := .cells #[.string (⟨#[]⟩ : ByteArray), .slice none 0 0, .slice none 0 0, .slice none 0 0, .slice none 0 0, .slice none 0 0] 26 (0, 0)) (by (with_reducible repeat (first | refine qHd ?_ _ | refine qHe ?_ | refine qHf ?_ _)); exact BK102.out) hb)
        have n3_ := qHs (qHp (by repeat (first | (with_reducible first | exact HB.out | apply qHg | apply qHh | apply qHi | refine qHm ?_ GE101.out | refine qHm ?_ GE102.out) | exact HB.out)) hb)
        have z_HO111 := fun (h0_ : b 6 = true) (h1_ : b 9 = false) => (show Kd.R Kd.string 9 w10 w.heap.size (fun _ => True) v110 y109 from by first | exact (Kd.R_elder' (by (with_reducible repeat (first | apply qHa | apply qHb | apply qHc)); exact (Q_HO111 h0_ h1_)) (Kd.R_base ho11) hb) | exact Kd.R_mono (Kd.R_elder' (by (with_reducible repeat (first | apply qHa | apply qHb | apply qHc)); exact (Q_HO111 h0_ h1_)) (Kd.R_base ho11) hb) (fun _ h_ => by first | trivial | exact h_ | exact h_.1))
        have z_HO117 := fun (h0_ : b 10 = true) (h1_ : b 13 = false) => (show Kd.R (Kd.int .u32) 44 w10 w.heap.size (fun _ => True) v116 y115 from by first | exact (qHn (by (with_reducible repeat (first | apply qHa | apply qHb | apply qHc)); exact (Q_HO117 h0_ h1_)) hb) | exact Kd.R_mono (qHn (by (with_reducible repeat (first | apply qHa | apply qHb | apply qHc)); exact (Q_HO117 h0_ h1_)) hb) (fun _ h_ => by first | trivial | exact h_ | exact h_.1))
        have z_HO123 := fun (h0_ : b 14 = true) (h1_ : b 17 = false) => (show Kd.R (Kd.int .u32) 44 w10 w.heap.size (fun _ => True) v122 y121 from by first | exact (qHn (by (with_reducible repeat (first | apply qHa | apply qHb | apply qHc)); exact (Q_HO123 h0_ h1_)) hb) | exact Kd.R_mono (qHn (by (with_reducible repeat (first | apply qHa | apply qHb | apply qHc)); exact (Q_HO123 h0_ h1_)) hb) (fun _ h_ => by first | trivial | exact h_ | exact h_.1))
        have z_HO129 := fun (h0_ : b 18 = true) (h1_ : b 21 = false) => (show Kd.R k43 43 w10 w.heap.size (fun _ => True) v128 y127 from by first | exact (qHn (by (with_reducible repeat (first | apply qHa | apply qHb | apply qHc)); exact (Q_HO129 h0_ h1_)) hb) | exact Kd.R_mono (qHn (by (with_reducible repeat (first | apply qHa | apply qHb | apply qHc)); exact (Q_HO129 h0_ h1_)) hb) (fun _ h_ => by first | trivial | exact h_ | exact h_.1))
        clear BK101
        clear BK102
        clear HB
        have HO105 := n0_
        have BK101 := n1_
        have BK102 := n2_
        have HB := n3_
        clear n0_ n1_ n2_ n3_
        clear hb ho11
        refine hK.out _ _ ⟨v104, v107, v110, v113, v116, v119, v122, v125, v128, v131, m22_, (by rw [ha.out]; exact putSel_upk 1 hb_ rfl rfl rfl), (by (with_reducible repeat (first | refine qHd ?_ _ | refine qHe ?_ | refine qHf ?_ _)); exact BK101.out), fun _ => (by (with_reducible repeat (first | refine qHd ?_ _ | refine qHe ?_ | refine qHf ?_ _)); exact BK102.out), (by repeat (first | (with_reducible first | exact HB.out | apply qHg | apply qHh | apply qHi | refine qHm ?_ GE101.out | refine qHm ?_ GE102.out) | exact HB.out)), fun _ _ => (by (with_reducible repeat (first | apply qHa | apply qHb | apply qHc)); exact HO105.out), fun h0_ => absurd ((hoff 5 (by kernel_rfl)).symm.trans h0_) (by decide), z_HO111, fun h0_ => absurd ((hoff 9 (by kernel_rfl)).symm.trans h0_) (by decide), z_HO117, fun h0_ => absurd ((hoff 13 (by kernel_rfl)).symm.trans h0_) (by decide), z_HO123, fun h0_ => absurd ((hoff 17 (by kernel_rfl)).symm.trans h0_) (by decide), z_HO129, fun h0_ => absurd ((hoff 21 (by kernel_rfl)).symm.trans h0_) (by decide), fun h0_ => absurd ((hoff 23 (by kernel_rfl)).symm.trans h0_) (by decide), fun h0_ => absurd ((hoff 22 (by kernel_rfl)).symm.trans h0_) (by decide), N1, fun h0_ _ _ => absurd ((hoff 5 (by kernel_rfl)).symm.trans h0_) (by decide), fun h0_ => absurd ((hoff 9 (by kernel_rfl)).symm.trans h0_) (by decide), P4, P5, P6⟩
       refine steps_cons ?_ ?_
       ·rintro b a w' ⟨v104, v107, v110, v113, v116, v119, v122, v125, v128, v131, m22_, ha, Q_BK101, Q_BK102, Q_HB, Q_HO105, Q_HO108, Q_HO111, Q_HO114, Q_HO117, Q_HO120, Q_HO123, Q_HO126, Q_HO129, Q_HO132, Q_BK102_e23, Q_X22_, P1, P2, P3, P4, P5, P6⟩ hb_ hon hoff
        refine ⟨_, rfl, fun K hK => ?_⟩
        have e6 : a.tmps[6]? = some (.pointer (some ⟨gb101, 1, none⟩)) := by rw [ha]; exact (putSel_off rfl).trans rfl
        replace ha := qHs ha
        have BK101 := qHs Q_BK101
        have BK102 := qHs (Q_BK102 (hoff 23 (by kernel_rfl)))
        have HB := qHs Q_HB
        have hc0_ : w'.cell? ⟨gb101, 0, none⟩ = some (.string a0_0) := (blk_cell BK101.out 0).trans rfl
        have hc1_ : w'.cell? ⟨gb101, 1, none⟩ = some (.slice A0_1 l0_1.length c0_1) := (blk_cell BK101.out 1).trans rfl
        have hc2_ : w'.cell? ⟨gb101, 2, none⟩ = some (.slice A0_2 l0_2.length c0_2) := (blk_cell BK101.out 2).trans rfl
        have hc3_ : w'.cell? ⟨gb101, 3, none⟩ = some (.slice A0_3 l0_3.length c0_3) := (blk_cell BK101.out 3).trans rfl
        have hc4_ : w'.cell? ⟨gb101, 4, none⟩ = some (.slice A0_4 l0_4.length c0_4) := (blk_cell BK101.out 4).trans rfl
        have hc5_ : w'.cell? ⟨gb101, 5, none⟩ = some (.slice A0_5 l0_5.length c0_5) := (blk_cell BK101.out 5).trans rfl
        refine value_ (w1 := w') (v := .slice A0_1 l0_1.length c0_1) (by rfl) rfl ?_ ?_
        ·go_simp
         (try simp only [i64_w])
         try rfl
        refine hK.out _ _ ⟨v104, v107, v110, v113, v116, v119, v122, v125, v128, v131, m22_, (by rw [ha.out]; exact putSel_upk 2 hb_ rfl rfl rfl), Q_BK101, Q_BK102, Q_HB, Q_HO105, fun h0_ => absurd ((hoff 5 (by kernel_rfl)).symm.trans h0_) (by decide), Q_HO111, fun h0_ => absurd ((hoff 9 (by kernel_rfl)).symm.trans h0_) (by decide), Q_HO117, fun h0_ => absurd ((hoff 13 (by kernel_rfl)).symm.trans h0_) (by decide), Q_HO123, fun h0_ => absurd ((hoff 17 (by kernel_rfl)).symm.trans h0_) (by decide), Q_HO129, fun h0_ => absurd ((hoff 21 (by kernel_rfl)).symm.trans h0_) (by decide), fun h0_ => absurd ((hoff 23 (by kernel_rfl)).symm.trans h0_) (by decide), fun h0_ => absurd ((hoff 22 (by kernel_rfl)).symm.trans h0_) (by decide), P1, P2, P3, P4, P5, P6⟩
       refine steps_cons ?_ ?_
       ·rintro b a w' ⟨v104, v107, v110, v113, v116, v119, v122, v125, v128, v131, m22_, ha, Q_BK101, Q_BK102, Q_HB, Q_HO105, Q_HO108, Q_HO111, Q_HO114, Q_HO117, Q_HO120, Q_HO123, Q_HO126, Q_HO129, Q_HO132, Q_BK102_e23, Q_X22_, P1, P2, P3, P4, P5, P6⟩ hb_ hon hoff
        refine ⟨_, rfl, fun K hK => ?_⟩
        have e5 : a.tmps[5]? = some (v104) := by rw [ha]; exact putSel_on (e := (2, 5, v104)) 1 rfl rfl (hon 2 (by kernel_rfl)) rfl
        have e7 : a.tmps[7]? = some (.slice A0_1 l0_1.length c0_1) := by rw [ha]; exact putSel_on (e := (4, 7, .slice A0_1 l0_1.length c0_1)) 2 rfl rfl (hon 4 (by kernel_rfl)) rfl
        replace ha := qHs ha
        have BK101 := qHs Q_BK101
        have BK102 := qHs (Q_BK102 (hoff 23 (by kernel_rfl)))
        have HB := qHs Q_HB
        have HO105 := qHs (Q_HO105 (hon 2 (by kernel_rfl)) hb_)
        refine Kd.R_append_rows_step Kd.string (w0 := w) w.heap.size (by rfl) (.tmp 5) (.tmp 7) 22 9 (.string ⟨#[]⟩) 16 rfl Tryd.underlying22 info9 rfl (by decide) (by omega) v104 y103 l0_1 _ _ _ (fun _ => True) (fun _ => False) (ev_tmp e5) (ev_tmp e7) ?aO ?aR (fun _ _ h => h) (fun _ h => h.elim) ?aF ?aB ?aS ?aL ?_
        (case aR => repeat (first | exact (qHq HR0_1.out HB.out) | (with_reducible refine qHj ?_ _) | (with_reducible refine qHk ?_ _) | (with_reducible refine qHl ?_)))
        (case aB => exact (by repeat (first | (with_reducible first | exact HB.out | apply qHg | apply qHh | apply qHi | refine qHm ?_ GE101.out | refine qHm ?_ GE102.out) | exact HB.out)))
        (case aF => exact (fun _ _ => trivial))
        (case aO => exact (by (with_reducible repeat (first | apply qHa | apply qHb | apply qHc)); exact HO105.out))
        (case aS => exact (below_size (by repeat (first | (with_reducible first | exact HB.out | apply qHg | apply qHh | apply qHi | refine qHm ?_ GE101.out | refine qHm ?_ GE102.out) | exact HB.out))))
        (case aL => have := LMc2.out; omega)
        intro v107 w13 ho hb hg hat
        have N2 := fun (_ : up b 5 5 = true) (h6_ : b 6 = true) (h9_ : b 9 = false) => apart_after (P1 (hon 2 (by kernel_rfl)) hb_ h6_ h9_) hat (Kd.R_lt (Q_HO111 h6_ h9_))
        rw [← Ny106.out] at ho
        have n0_ := qHs (blk_grown (g := gb101) (o := .cells #[.string a0_0, .slice A0_1 l0_1.length c0_1, .slice A0_2 l0_2.length c0_2, .slice A0_3 l0_3.length c0_3, .slice A0_4 l0_4.length c0_4, .slice A0_5 l0_5.length c0_5] 26 (0, 0)) (by (with_reducible repeat (first | refine qHd ?_ _ | refine qHe ?_ | refine qHf ?_ _)); exact BK101.out) hg (Kd.R_ne HO105.out BK101.out (by decide)))
        have n1_ := qHs (blk_grown (g := gb102) (o := .cells #[.string (⟨#[]⟩ : ByteArray), .slice none 0 0, .slice none 0 0, .slice none 0 0, .slice none 0 0, .slice none 0 0] 26 (0, 0)) (by (with_reducible repeat (first | refine qHd ?_ _ | refine qHe ?_ | refine qHf ?_ _)); exact BK102.out) hg (Kd.R_ne HO105.out BK102.out (by decide)))
        have n2_ := qHs (hb)
        have n3_ := qHs (ho)
        have z_HO111 := fun (h0_ : b 6 = true) (h1_ : b 9 = false) => (show Kd.R Kd.string 9 w13 w.heap.size (fun _ => True) v110 y109 from by first | exact (Kd.R_after (ok := (fun _ => True)) (by (with_reducible repeat (first | apply qHa | apply qHb | apply qHc)); exact Kd.R_flat (fun h => h) (Q_HO111 h0_ h1_) (fun k hk _ => ⟨trivial, atom_of' (P1 (hon 2 (by kernel_rfl)) hb_ h0_ h1_) hk⟩)) hg hat) | exact Kd.R_mono (Kd.R_after (ok := (fun _ => True)) (by (with_reducible repeat (first | apply qHa | apply qHb | apply qHc)); exact Kd.R_flat (fun h => h) (Q_HO111 h0_ h1_) (fun k hk _ => ⟨trivial, atom_of' (P1 (hon 2 (by kernel_rfl)) hb_ h0_ h1_) hk⟩)) hg hat) (fun _ h_ => by first | trivial | exact h_ | exact h_.1))
        have z_HO117 := fun (h0_ : b 10 = true) (h1_ : b 13 = false) => (show Kd.R (Kd.int .u32) 44 w13 w.heap.size (fun _ => True) v116 y115 from by first | exact (Kd.R_over' (by (with_reducible repeat (first | apply qHa | apply qHb | apply qHc)); exact (Q_HO117 h0_ h1_)) (Kd.R_typed (by (with_reducible repeat (first | apply qHa | apply qHb | apply qHc)); exact HO105.out)) (by decide) hg) | exact Kd.R_mono (Kd.R_over' (by (with_reducible repeat (first | apply qHa | apply qHb | apply qHc)); exact (Q_HO117 h0_ h1_)) (Kd.R_typed (by (with_reducible repeat (first | apply qHa | apply qHb | apply qHc)); exact HO105.out)) (by decide) hg) (fun _ h_ => by first | trivial | exact h_ | exact h_.1))
        have z_HO123 := fun (h0_ : b 14 = true) (h1_ : b 17 = false) => (show Kd.R (Kd.int .u32) 44 w13 w.heap.size (fun _ => True) v122 y121 from by first | exact (Kd.R_over' (by (with_reducible repeat (first | apply qHa | apply qHb | apply qHc)); exact (Q_HO123 h0_ h1_)) (Kd.R_typed (by (with_reducible repeat (first | apply qHa | apply qHb | apply qHc)); exact HO105.out)) (by decide) hg) | exact Kd.R_mono (Kd.R_over' (by (with_reducible repeat (first | apply qHa | apply qHb | apply qHc)); exact (Q_HO123 h0_ h1_)) (Kd.R_typed (by (with_reducible repeat (first | apply qHa | apply qHb | apply qHc)); exact HO105.out)) (by decide) hg) (fun _ h_ => by first | trivial | exact h_ | exact h_.1))
        have z_HO129 := fun (h0_ : b 18 = true) (h1_ : b 21 = false) => (show Kd.R k43 43 w13 w.heap.size (fun _ => True) v128 y127 from by first | exact (Kd.R_over' (by (with_reducible repeat (first | apply qHa | apply qHb | apply qHc)); exact (Q_HO129 h0_ h1_)) (Kd.R_typed (by (with_reducible repeat (first | apply qHa | apply qHb | apply qHc)); exact HO105.out)) (by decide) hg) | exact Kd.R_mono (Kd.R_over' (by (with_reducible repeat (first | apply qHa | apply qHb | apply qHc)); exact (Q_HO129 h0_ h1_)) (Kd.R_typed (by (with_reducible repeat (first | apply qHa | apply qHb | apply qHc)); exact HO105.out)) (by decide) hg) (fun _ h_ => by first | trivial | exact h_ | exact h_.1))
        clear BK101
        clear BK102
        clear HB
        clear HO105
        have BK101 := n0_
        have BK102 := n1_
        have HB := n2_
        have HO108 := n3_
        clear n0_ n1_ n2_ n3_
        clear ho hb hg hat
        refine hK.out _ _ ⟨v104, v107, v110, v113, v116, v119, v122, v125, v128, v131, m22_, (by rw [ha.out]; exact putSel_upk 3 hb_ rfl rfl rfl), (by (with_reducible repeat (first | refine qHd ?_ _ | refine qHe ?_ | refine qHf ?_ _)); exact BK101.out), fun _ => (by (with_reducible repeat (first | refine qHd ?_ _ | refine qHe ?_ | refine qHf ?_ _)); exact BK102.out), (by repeat (first | (with_reducible first | exact HB.out | apply qHg | apply qHh | apply qHi | refine qHm ?_ GE101.out | refine qHm ?_ GE102.out) | exact HB.out)), fun _ h1_ => absurd ((up_self b 5).symm.trans h1_) (by decide), fun _ => (by (with_reducible repeat (first | apply qHa | apply qHb | apply qHc)); exact HO108.out), z_HO111, fun h0_ => absurd ((hoff 9 (by kernel_rfl)).symm.trans h0_) (by decide), z_HO117, fun h0_ => absurd ((hoff 13 (by kernel_rfl)).symm.trans h0_) (by decide), z_HO123, fun h0_ => absurd ((hoff 17 (by kernel_rfl)).symm.trans h0_) (by decide), z_HO129, fun h0_ => absurd ((hoff 21 (by kernel_rfl)).symm.trans h0_) (by decide), fun h0_ => absurd ((hoff 23 (by kernel_rfl)).symm.trans h0_) (by decide), fun h0_ => absurd ((hoff 22 (by kernel_rfl)).symm.trans h0_) (by decide), fun _ h0_ _ _ => absurd ((up_self b 5).symm.trans h0_) (by decide), N2, fun h0_ => absurd ((hoff 9 (by kernel_rfl)).symm.trans h0_) (by decide), P4, P5, P6⟩
       refine steps_cons ?_ ?_
       ·rintro b a w' ⟨v104, v107, v110, v113, v116, v119, v122, v125, v128, v131, m22_, ha, Q_BK101, Q_BK102, Q_HB, Q_HO105, Q_HO108, Q_HO111, Q_HO114, Q_HO117, Q_HO120, Q_HO123, Q_HO126, Q_HO129, Q_HO132, Q_BK102_e23, Q_X22_, P1, P2, P3, P4, P5, P6⟩ hb_ hon hoff
        refine ⟨_, rfl, fun K hK => ?_⟩
        replace ha := qHs ha
        have BK101 := qHs Q_BK101
        have BK102 := qHs (Q_BK102 (hoff 23 (by kernel_rfl)))
        have HB := qHs Q_HB
        refine Kd.R_lit_step Kd.string _ 9 ?hg (N := 9) ?hd (xs := ([] : List ByteArray)) (inner := []) (ok := fun _ => True) (okp := fun _ => True) ?hr ?hp (fun _ hk => hk) trivial (Below.refl _ _) (Nat.le_refl _) (by simp) ?_; (case hd => rfl); (case hg => rfl); (case hr => first | (go_simp; done) | (go_simp; rfl)); (case hp => exact (Reps.none _ _))
        intro v110 w10 ho11 hb hg_ hnew_
        have N1 := fun (h2_ : b 2 = true) (h5_ : b 5 = false) (_ : up b 6 6 = true) (_ : b 9 = false) => own_apart (Kd.R_lt (Q_HO105 h2_ h5_)) (Kd.R_base ho11)
        have N2 := fun (h5_ : b 5 = true) (_ : up b 6 6 = true) (_ : b 9 = false) => own_apart (Kd.R_lt (Q_HO108 h5_)) (Kd.R_base ho11)
        clear hg_ hnew_
        (first | rw [← Ny109.out] at ho11 | (simp only [Int.reduceToNat] at ho11; rw [← Ny109.out] at ho11))
        have n0_ := qHs (Kd.R_lower ho11 (below_size (by repeat (first | (with_reducible first | exact HB.out | apply qHg | apply qHh | apply qHi | refine qHm ?_ GE101.out | refine qHm ?_ GE102.out) | exact HB.out))))
        have n1_ := qHs (qHo (g := gb101) (o := .cells #[.string a0_0, .slice A0_1 l0_1.length c0_1, .slice A0_2 l0_2.length c0_2, .slice A0_3 l0_3.length c0_3, .slice A0_4 l0_4.length c0_4, .slice A0_5 l0_5.length c0_5] 26 (0, 0)) (by (with_reducible repeat (first | refine qHd ?_ _ | refine qHe ?_ | refine qHf ?_ _)); exact BK101.out) hb)
        have n2_ := qHs (qHo (g := gb102) (o := .cells #[.string (⟨#[]⟩ : ByteArray), .slice none 0 0, .slice none 0 0, .slice none 0 0, .slice none 0 0, .slice none 0 0] 26 (0, 0)) (by (with_reducible repeat (first | refine qHd ?_ _ | refine qHe ?_ | refine qHf ?_ _)); exact BK102.out) hb)
        have n3_ := qHs (qHp (by repeat (first | (with_reducible first | exact HB.out | apply qHg | apply qHh | apply qHi | refine qHm ?_ GE101.out | refine qHm ?_ GE102.out) | exact HB.out)) hb)
        have z_HO105 := fun (h0_ : b 2 = true) (h1_ : b 5 = false) => (show Kd.R Kd.string 9 w10 w.heap.size (fun _ => True) v104 y103 from by first | exact (Kd.R_elder' (by (with_reducible repeat (first | apply qHa | apply qHb | apply qHc)); exact (Q_HO105 h0_ h1_)) (Kd.R_base ho11) hb) | exact Kd.R_mono (Kd.R_elder' (by (with_reducible repeat (first | apply qHa | apply qHb | apply qHc)); exact (Q_HO105 h0_ h1_)) (Kd.R_base ho11) hb) (fun _ h_ => by first | trivial | exact h_ | exact h_.1))
        have z_HO108 := fun (h0_ : b 5 = true) => (show Kd.R Kd.string 9 w10 w.heap.size (fun _ => True) v107 y106 from by first | exact (Kd.R_elder' (by (with_reducible repeat (first | apply qHa | apply qHb | apply qHc)); exact (Q_HO108 h0_)) (Kd.R_base ho11) hb) | exact Kd.R_mono (Kd.R_elder' (by (with_reducible repeat (first | apply qHa | apply qHb | apply qHc)); exact (Q_HO108 h0_)) (Kd.R_base ho11) hb) (fun _ h_ => by first | trivial | exact h_ | exact h_.1))
        have z_HO117 := fun (h0_ : b 10 = true) (h1_ : b 13 = false) => (show Kd.R (Kd.int .u32) 44 w10 w.heap.size (fun _ => True) v116 y115 from by first | exact (qHn (by (with_reducible repeat (first | apply qHa | apply qHb | apply qHc)); exact (Q_HO117 h0_ h1_)) hb) | exact Kd.R_mono (qHn (by (with_reducible repeat (first | apply qHa | apply qHb | apply qHc)); exact (Q_HO117 h0_ h1_)) hb) (fun _ h_ => by first | trivial | exact h_ | exact h_.1))
        have z_HO123 := fun (h0_ : b 14 = true) (h1_ : b 17 = false) => (show Kd.R (Kd.int .u32) 44 w10 w.heap.size (fun _ => True) v122 y121 from by first | exact (qHn (by (with_reducible repeat (first | apply qHa | apply qHb | apply qHc)); exact (Q_HO123 h0_ h1_)) hb) | exact Kd.R_mono (qHn (by (with_reducible repeat (first | apply qHa | apply qHb | apply qHc)); exact (Q_HO123 h0_ h1_)) hb) (fun _ h_ => by first | trivial | exact h_ | exact h_.1))
        have z_HO129 := fun (h0_ : b 18 = true) (h1_ : b 21 = false) => (show Kd.R k43 43 w10 w.heap.size (fun _ => True) v128 y127 from by first | exact (qHn (by (with_reducible repeat (first | apply qHa | apply qHb | apply qHc)); exact (Q_HO129 h0_ h1_)) hb) | exact Kd.R_mono (qHn (by (with_reducible repeat (first | apply qHa | apply qHb | apply qHc)); exact (Q_HO129 h0_ h1_)) hb) (fun _ h_ => by first | trivial | exact h_ | exact h_.1))
        clear BK101
        clear BK102
        clear HB
        have HO111 := n0_
        have BK101 := n1_
        have BK102 := n2_
        have HB := n3_
        clear n0_ n1_ n2_ n3_
        clear hb ho11
        refine hK.out _ _ ⟨v104, v107, v110, v113, v116, v119, v122, v125, v128, v131, m22_, (by rw [ha.out]; exact putSel_upk 4 hb_ rfl rfl rfl), (by (with_reducible repeat (first | refine qHd ?_ _ | refine qHe ?_ | refine qHf ?_ _)); exact BK101.out), fun _ => (by (with_reducible repeat (first | refine qHd ?_ _ | refine qHe ?_ | refine qHf ?_ _)); exact BK102.out), (by repeat (first | (with_reducible first | exact HB.out | apply qHg | apply qHh | apply qHi | refine qHm ?_ GE101.out | refine qHm ?_ GE102.out) | exact HB.out)), z_HO105, z_HO108, fun _ _ => (by (with_reducible repeat (first | apply qHa | apply qHb | apply qHc)); exact HO111.out), fun h0_ => absurd ((hoff 9 (by kernel_rfl)).symm.trans h0_) (by decide), z_HO117, fun h0_ => absurd ((hoff 13 (by kernel_rfl)).symm.trans h0_) (by decide), z_HO123, fun h0_ => absurd ((hoff 17 (by kernel_rfl)).symm.trans h0_) (by decide), z_HO129, fun h0_ => absurd ((hoff 21 (by kernel_rfl)).symm.trans h0_) (by decide), fun h0_ => absurd ((hoff 23 (by kernel_rfl)).symm.trans h0_) (by decide), fun h0_ => absurd ((hoff 22 (by kernel_rfl)).symm.trans h0_) (by decide), N1, N2, fun h0_ => absurd ((hoff 9 (by kernel_rfl)).symm.trans h0_) (by decide), P4, P5, P6⟩
       refine steps_cons ?_ ?_
       ·rintro b a w' ⟨v104, v107, v110, v113, v116, v119, v122, v125, v128, v131, m22_, ha, Q_BK101, Q_BK102, Q_HB, Q_HO105, Q_HO108, Q_HO111, Q_HO114, Q_HO117, Q_HO120, Q_HO123, Q_HO126, Q_HO129, Q_HO132, Q_BK102_e23, Q_X22_, P1, P2, P3, P4, P5, P6⟩ hb_ hon hoff
        refine ⟨_, rfl, fun K hK => ?_⟩
        have e10 : a.tmps[10]? = some (.pointer (some ⟨gb101, 2, none⟩)) := by rw [ha]; exact (putSel_off rfl).trans rfl
        replace ha := qHs ha
        have BK101 := qHs Q_BK101
        have BK102 := qHs (Q_BK102 (hoff 23 (by kernel_rfl)))
        have HB := qHs Q_HB
        have hc0_ : w'.cell? ⟨gb101, 0, none⟩ = some (.string a0_0) := (blk_cell BK101.out 0).trans rfl
        have hc1_ : w'.cell? ⟨gb101, 1, none⟩ = some (.slice A0_1 l0_1.length c0_1) := (blk_cell BK101.out 1).trans rfl
        have hc2_ : w'.cell? ⟨gb101, 2, none⟩ = some (.slice A0_2 l0_2.length c0_2) := (blk_cell BK101.out 2).trans rfl
        have hc3_ : w'.cell? ⟨gb101, 3, none⟩ = some (.slice A0_3 l0_3.length c0_3) := (blk_cell BK101.out 3).trans rfl
        have hc4_ : w'.cell? ⟨gb101, 4, none⟩ = some (.slice A0_4 l0_4.length c0_4) := (blk_cell BK101.out 4).trans rfl
        have hc5_ : w'.cell? ⟨gb101, 5, none⟩ = some (.slice A0_5 l0_5.length c0_5) := (blk_cell BK101.out 5).trans rfl
        refine value_ (w1 := w') (v := .slice A0_2 l0_2.length c0_2) (by rfl) rfl ?_ ?_
        ·go_simp
         (try simp only [i64_w])
         try rfl
        refine hK.out _ _ ⟨v104, v107, v110, v113, v116, v119, v122, v125, v128, v131, m22_, (by rw [ha.out]; exact putSel_upk 5 hb_ rfl rfl rfl), Q_BK101, Q_BK102, Q_HB, Q_HO105, Q_HO108, Q_HO111, fun h0_ => absurd ((hoff 9 (by kernel_rfl)).symm.trans h0_) (by decide), Q_HO117, fun h0_ => absurd ((hoff 13 (by kernel_rfl)).symm.trans h0_) (by decide), Q_HO123, fun h0_ => absurd ((hoff 17 (by kernel_rfl)).symm.trans h0_) (by decide), Q_HO129, fun h0_ => absurd ((hoff 21 (by kernel_rfl)).symm.trans h0_) (by decide), fun h0_ => absurd ((hoff 23 (by kernel_rfl)).symm.trans h0_) (by decide), fun h0_ => absurd ((hoff 22 (by kernel_rfl)).symm.trans h0_) (by decide), P1, P2, P3, P4, P5, P6⟩
       refine steps_cons ?_ ?_
       ·rintro b a w' ⟨v104, v107, v110, v113, v116, v119, v122, v125, v128, v131, m22_, ha, Q_BK101, Q_BK102, Q_HB, Q_HO105, Q_HO108, Q_HO111, Q_HO114, Q_HO117, Q_HO120, Q_HO123, Q_HO126, Q_HO129, Q_HO132, Q_BK102_e23, Q_X22_, P1, P2, P3, P4, P5, P6⟩ hb_ hon hoff
        refine ⟨_, rfl, fun K hK => ?_⟩
        have e9 : a.tmps[9]? = some (v110) := by rw [ha]; exact putSel_on (e := (6, 9, v110)) 4 rfl rfl (hon 6 (by kernel_rfl)) rfl
        have e11 : a.tmps[11]? = some (.slice A0_2 l0_2.length c0_2) := by rw [ha]; exact putSel_on (e := (8, 11, .slice A0_2 l0_2.length c0_2)) 5 rfl rfl (hon 8 (by kernel_rfl)) rfl
        replace ha := qHs ha
        have BK101 := qHs Q_BK101
        have BK102 := qHs (Q_BK102 (hoff 23 (by kernel_rfl)))
        have HB := qHs Q_HB
        have HO108 := qHs (Q_HO108 (hon 5 (by kernel_rfl)))
        have HO111 := qHs (Q_HO111 (hon 6 (by kernel_rfl)) hb_)
        refine Kd.R_append_rows_step Kd.string (w0 := w) w.heap.size (by rfl) (.tmp 9) (.tmp 11) 22 9 (.string ⟨#[]⟩) 16 rfl Tryd.underlying22 info9 rfl (by decide) (by omega) v110 y109 l0_2 _ _ _ (fun _ => True) (fun _ => False) (ev_tmp e9) (ev_tmp e11) ?aO ?aR (fun _ _ h => h) (fun _ h => h.elim) ?aF ?aB ?aS ?aL ?_
        (case aR => repeat (first | exact (qHq HR0_2.out HB.out) | (with_reducible refine qHj ?_ _) | (with_reducible refine qHk ?_ _) | (with_reducible refine qHl ?_)))
        (case aB => exact (by repeat (first | (with_reducible first | exact HB.out | apply qHg | apply qHh | apply qHi | refine qHm ?_ GE101.out | refine qHm ?_ GE102.out) | exact HB.out)))
        (case aF => exact (fun _ _ => trivial))
        (case aO => exact (by (with_reducible repeat (first | apply qHa | apply qHb | apply qHc)); exact HO111.out))
        (case aS => exact (below_size (by repeat (first | (with_reducible first | exact HB.out | apply qHg | apply qHh | apply qHi | refine qHm ?_ GE101.out | refine qHm ?_ GE102.out) | exact HB.out))))
        (case aL => have := LMc3.out; omega)
        intro v113 w16 ho hb hg hat
        have N3 := fun (_ : up b 9 9 = true) => apart_after' (P2 (hon 5 (by kernel_rfl)) (hon 6 (by kernel_rfl)) hb_) hat (Kd.R_lt (Q_HO108 (hon 5 (by kernel_rfl))))
        rw [← Ny112.out] at ho
        have n0_ := qHs (blk_grown (g := gb101) (o := .cells #[.string a0_0, .slice A0_1 l0_1.length c0_1, .slice A0_2 l0_2.length c0_2, .slice A0_3 l0_3.length c0_3, .slice A0_4 l0_4.length c0_4, .slice A0_5 l0_5.length c0_5] 26 (0, 0)) (by (with_reducible repeat (first | refine qHd ?_ _ | refine qHe ?_ | refine qHf ?_ _)); exact BK101.out) hg (Kd.R_ne HO111.out BK101.out (by decide)))
        have n1_ := qHs (blk_grown (g := gb102) (o := .cells #[.string (⟨#[]⟩ : ByteArray), .slice none 0 0, .slice none 0 0, .slice none 0 0, .slice none 0 0, .slice none 0 0] 26 (0, 0)) (by (with_reducible repeat (first | refine qHd ?_ _ | refine qHe ?_ | refine qHf ?_ _)); exact BK102.out) hg (Kd.R_ne HO111.out BK102.out (by decide)))
        have n2_ := qHs (Kd.R_after (ok := (fun _ => True)) (by (with_reducible repeat (first | apply qHa | apply qHb | apply qHc)); exact Kd.R_flat (fun h => h) HO108.out (fun k hk _ => ⟨trivial, atom_of (P2 (hon 5 (by kernel_rfl)) (hon 6 (by kernel_rfl)) hb_) hk⟩)) hg hat)
        have n3_ := qHs (hb)
        have n4_ := qHs (ho)
        have z_HO117 := fun (h0_ : b 10 = true) (h1_ : b 13 = false) => (show Kd.R (Kd.int .u32) 44 w16 w.heap.size (fun _ => True) v116 y115 from by first | exact (Kd.R_over' (by (with_reducible repeat (first | apply qHa | apply qHb | apply qHc)); exact (Q_HO117 h0_ h1_)) (Kd.R_typed (by (with_reducible repeat (first | apply qHa | apply qHb | apply qHc)); exact HO111.out)) (by decide) hg) | exact Kd.R_mono (Kd.R_over' (by (with_reducible repeat (first | apply qHa | apply qHb | apply qHc)); exact (Q_HO117 h0_ h1_)) (Kd.R_typed (by (with_reducible repeat (first | apply qHa | apply qHb | apply qHc)); exact HO111.out)) (by decide) hg) (fun _ h_ => by first | trivial | exact h_ | exact h_.1))
        have z_HO123 := fun (h0_ : b 14 = true) (h1_ : b 17 = false) => (show Kd.R (Kd.int .u32) 44 w16 w.heap.size (fun _ => True) v122 y121 from by first | exact (Kd.R_over' (by (with_reducible repeat (first | apply qHa | apply qHb | apply qHc)); exact (Q_HO123 h0_ h1_)) (Kd.R_typed (by (with_reducible repeat (first | apply qHa | apply qHb | apply qHc)); exact HO111.out)) (by decide) hg) | exact Kd.R_mono (Kd.R_over' (by (with_reducible repeat (first | apply qHa | apply qHb | apply qHc)); exact (Q_HO123 h0_ h1_)) (Kd.R_typed (by (with_reducible repeat (first | apply qHa | apply qHb | apply qHc)); exact HO111.out)) (by decide) hg) (fun _ h_ => by first | trivial | exact h_ | exact h_.1))
        have z_HO129 := fun (h0_ : b 18 = true) (h1_ : b 21 = false) => (show Kd.R k43 43 w16 w.heap.size (fun _ => True) v128 y127 from by first | exact (Kd.R_over' (by (with_reducible repeat (first | apply qHa | apply qHb | apply qHc)); exact (Q_HO129 h0_ h1_)) (Kd.R_typed (by (with_reducible repeat (first | apply qHa | apply qHb | apply qHc)); exact HO111.out)) (by decide) hg) | exact Kd.R_mono (Kd.R_over' (by (with_reducible repeat (first | apply qHa | apply qHb | apply qHc)); exact (Q_HO129 h0_ h1_)) (Kd.R_typed (by (with_reducible repeat (first | apply qHa | apply qHb | apply qHc)); exact HO111.out)) (by decide) hg) (fun _ h_ => by first | trivial | exact h_ | exact h_.1))
        clear BK101
        clear BK102
        clear HO108
        clear HB
        clear HO111
        have BK101 := n0_
        have BK102 := n1_
        have HO108 := n2_
        have HB := n3_
        have HO114 := n4_
        clear n0_ n1_ n2_ n3_ n4_
        clear ho hb hg hat
        refine hK.out _ _ ⟨v104, v107, v110, v113, v116, v119, v122, v125, v128, v131, m22_, (by rw [ha.out]; exact putSel_upk 6 hb_ rfl rfl rfl), (by (with_reducible repeat (first | refine qHd ?_ _ | refine qHe ?_ | refine qHf ?_ _)); exact BK101.out), fun _ => (by (with_reducible repeat (first | refine qHd ?_ _ | refine qHe ?_ | refine qHf ?_ _)); exact BK102.out), (by repeat (first | (with_reducible first | exact HB.out | apply qHg | apply qHh | apply qHi | refine qHm ?_ GE101.out | refine qHm ?_ GE102.out) | exact HB.out)), fun _ h1_ => absurd ((hon 5 (by kernel_rfl)).symm.trans h1_) (by decide), fun _ => (by (with_reducible repeat (first | apply qHa | apply qHb | apply qHc)); exact Kd.R_mono HO108.out (fun _ _ => trivial)), fun _ h1_ => absurd ((up_self b 9).symm.trans h1_) (by decide), fun _ => (by (with_reducible repeat (first | apply qHa | apply qHb | apply qHc)); exact HO114.out), z_HO117, fun h0_ => absurd ((hoff 13 (by kernel_rfl)).symm.trans h0_) (by decide), z_HO123, fun h0_ => absurd ((hoff 17 (by kernel_rfl)).symm.trans h0_) (by decide), z_HO129, fun h0_ => absurd ((hoff 21 (by kernel_rfl)).symm.trans h0_) (by decide), fun h0_ => absurd ((hoff 23 (by kernel_rfl)).symm.trans h0_) (by decide), fun h0_ => absurd ((hoff 22 (by kernel_rfl)).symm.trans h0_) (by decide), fun _ h0_ _ _ => absurd ((hon 5 (by kernel_rfl)).symm.trans h0_) (by decide), fun _ _ h0_ => absurd ((up_self b 9).symm.trans h0_) (by decide), N3, P4, P5, P6⟩
       refine steps_cons ?_ ?_
       ·rintro b a w' ⟨v104, v107, v110, v113, v116, v119, v122, v125, v128, v131, m22_, ha, Q_BK101, Q_BK102, Q_HB, Q_HO105, Q_HO108, Q_HO111, Q_HO114, Q_HO117, Q_HO120, Q_HO123, Q_HO126, Q_HO129, Q_HO132, Q_BK102_e23, Q_X22_, P1, P2, P3, P4, P5, P6⟩ hb_ hon hoff
        refine ⟨_, rfl, fun K hK => ?_⟩
        replace ha := qHs ha
        have BK101 := qHs Q_BK101
        have BK102 := qHs (Q_BK102 (hoff 23 (by kernel_rfl)))
        have HB := qHs Q_HB
        refine Kd.R_lit_step (Kd.int .u32) _ 44 ?hg (N := 13) ?hd (xs := ([] : List Int)) (inner := []) (ok := fun _ => True) (okp := fun _ => True) ?hr ?hp (fun _ hk => hk) trivial (Below.refl _ _) (Nat.le_refl _) (by simp) ?_; (case hd => rfl); (case hg => rfl); (case hr => first | (go_simp; done) | (go_simp; rfl)); (case hp => exact (Reps.none _ _))
        intro v116 w10 ho11 hb hg_ hnew_
        have N1 := fun (_ : up b 10 10 = true) (_ : b 13 = false) (h6_ : b 14 = true) (h9_ : b 17 = false) => own_apart' (Kd.R_base ho11) (Kd.R_lt (Q_HO123 h6_ h9_))
        clear hg_ hnew_
        (first | rw [← Ny115.out] at ho11 | (simp only [Int.reduceToNat] at ho11; rw [← Ny115.out] at ho11))
        have n0_ := qHs (Kd.R_lower ho11 (below_size (by repeat (first | (with_reducible first | exact HB.out | apply qHg | apply qHh | apply qHi | refine qHm ?_ GE101.out | refine qHm ?_ GE102.out) | exact HB.out))))
        have n1_ := qHs (qHo (g := gb101) (o := .cells #[.string a0_0, .slice A0_1 l0_1.length c0_1, .slice A0_2 l0_2.length c0_2, .slice A0_3 l0_3.length c0_3, .slice A0_4 l0_4.length c0_4, .slice A0_5 l0_5.length c0_5] 26 (0, 0)) (by (with_reducible repeat (first | refine qHd ?_ _ | refine qHe ?_ | refine qHf ?_ _)); exact BK101.out) hb)
        have n2_ := qHs (qHo (g := gb102) (o := .cells #[.string (⟨#[]⟩ : ByteArray), .slice none 0 0, .slice none 0 0, .slice none 0 0, .slice none 0 0, .slice none 0 0] 26 (0, 0)) (by (with_reducible repeat (first | refine qHd ?_ _ | refine qHe ?_ | refine qHf ?_ _)); exact BK102.out) hb)
        have n3_ := qHs (qHp (by repeat (first | (with_reducible first | exact HB.out | apply qHg | apply qHh | apply qHi | refine qHm ?_ GE101.out | refine qHm ?_ GE102.out) | exact HB.out)) hb)
        have z_HO105 := fun (h0_ : b 2 = true) (h1_ : b 5 = false) => (show Kd.R Kd.string 9 w10 w.heap.size (fun _ => True) v104 y103 from by first | exact (qHn (by (with_reducible repeat (first | apply qHa | apply qHb | apply qHc)); exact (Q_HO105 h0_ h1_)) hb) | exact Kd.R_mono (qHn (by (with_reducible repeat (first | apply qHa | apply qHb | apply qHc)); exact (Q_HO105 h0_ h1_)) hb) (fun _ h_ => by first | trivial | exact h_ | exact h_.1))
        have z_HO108 := fun (h0_ : b 5 = true) => (show Kd.R Kd.string 9 w10 w.heap.size (fun _ => True) v107 y106 from by first | exact (qHn (by (with_reducible repeat (first | apply qHa | apply qHb | apply qHc)); exact (Q_HO108 h0_)) hb) | exact Kd.R_mono (qHn (by (with_reducible repeat (first | apply qHa | apply qHb | apply qHc)); exact (Q_HO108 h0_)) hb) (fun _ h_ => by first | trivial | exact h_ | exact h_.1))
        have z_HO111 := fun (h0_ : b 6 = true) (h1_ : b 9 = false) => (show Kd.R Kd.string 9 w10 w.heap.size (fun _ => True) v110 y109 from by first | exact (qHn (by (with_reducible repeat (first | apply qHa | apply qHb | apply qHc)); exact (Q_HO111 h0_ h1_)) hb) | exact Kd.R_mono (qHn (by (with_reducible repeat (first | apply qHa | apply qHb | apply qHc)); exact (Q_HO111 h0_ h1_)) hb) (fun _ h_ => by first | trivial | exact h_ | exact h_.1))
        have z_HO114 := fun (h0_ : b 9 = true) => (show Kd.R Kd.string 9 w10 w.heap.size (fun _ => True) v113 y112 from by first | exact (qHn (by (with_reducible repeat (first | apply qHa | apply qHb | apply qHc)); exact (Q_HO114 h0_)) hb) | exact Kd.R_mono (qHn (by (with_reducible repeat (first | apply qHa | apply qHb | apply qHc)); exact (Q_HO114 h0_)) hb) (fun _ h_ => by first | trivial | exact h_ | exact h_.1))
        have z_HO123 := fun (h0_ : b 14 = true) (h1_ : b 17 = false) => (show Kd.R (Kd.int .u32) 44 w10 w.heap.size (fun _ => True) v122 y121 from by first | exact (Kd.R_elder' (by (with_reducible repeat (first | apply qHa | apply qHb | apply qHc)); exact (Q_HO123 h0_ h1_)) (Kd.R_base ho11) hb) | exact Kd.R_mono (Kd.R_elder' (by (with_reducible repeat (first | apply qHa | apply qHb | apply qHc)); exact (Q_HO123 h0_ h1_)) (Kd.R_base ho11) hb) (fun _ h_ => by first | trivial | exact h_ | exact h_.1))
        have z_HO129 := fun (h0_ : b 18 = true) (h1_ : b 21 = false) => (show Kd.R k43 43 w10 w.heap.size (fun _ => True) v128 y127 from by first | exact (qHn (by (with_reducible repeat (first | apply qHa | apply qHb | apply qHc)); exact (Q_HO129 h0_ h1_)) hb) | exact Kd.R_mono (qHn (by (with_reducible repeat (first | apply qHa | apply qHb | apply qHc)); exact (Q_HO129 h0_ h1_)) hb) (fun _ h_ => by first | trivial | exact h_ | exact h_.1))
        clear BK101
        clear BK102
        clear HB
        have HO117 := n0_
        have BK101 := n1_
        have BK102 := n2_
        have HB := n3_
        clear n0_ n1_ n2_ n3_
        clear hb ho11
        refine hK.out _ _ ⟨v104, v107, v110, v113, v116, v119, v122, v125, v128, v131, m22_, (by rw [ha.out]; exact putSel_upk 7 hb_ rfl rfl rfl), (by (with_reducible repeat (first | refine qHd ?_ _ | refine qHe ?_ | refine qHf ?_ _)); exact BK101.out), fun _ => (by (with_reducible repeat (first | refine qHd ?_ _ | refine qHe ?_ | refine qHf ?_ _)); exact BK102.out), (by repeat (first | (with_reducible first | exact HB.out | apply qHg | apply qHh | apply qHi | refine qHm ?_ GE101.out | refine qHm ?_ GE102.out) | exact HB.out)), z_HO105, z_HO108, z_HO111, z_HO114, fun _ _ => (by (with_reducible repeat (first | apply qHa | apply qHb | apply qHc)); exact HO117.out), fun h0_ => absurd ((hoff 13 (by kernel_rfl)).symm.trans h0_) (by decide), z_HO123, fun h0_ => absurd ((hoff 17 (by kernel_rfl)).symm.trans h0_) (by decide), z_HO129, fun h0_ => absurd ((hoff 21 (by kernel_rfl)).symm.trans h0_) (by decide), fun h0_ => absurd ((hoff 23 (by kernel_rfl)).symm.trans h0_) (by decide), fun h0_ => absurd ((hoff 22 (by kernel_rfl)).symm.trans h0_) (by decide), P1, P2, P3, N1, fun h0_ _ _ => absurd ((hoff 13 (by kernel_rfl)).symm.trans h0_) (by decide), fun h0_ => absurd ((hoff 17 (by kernel_rfl)).symm.trans h0_) (by decide)⟩
       refine steps_cons ?_ ?_
       ·rintro b a w' ⟨v104, v107, v110, v113, v116, v119, v122, v125, v128, v131, m22_, ha, Q_BK101, Q_BK102, Q_HB, Q_HO105, Q_HO108, Q_HO111, Q_HO114, Q_HO117, Q_HO120, Q_HO123, Q_HO126, Q_HO129, Q_HO132, Q_BK102_e23, Q_X22_, P1, P2, P3, P4, P5, P6⟩ hb_ hon hoff
        refine ⟨_, rfl, fun K hK => ?_⟩
        have e14 : a.tmps[14]? = some (.pointer (some ⟨gb101, 3, none⟩)) := by rw [ha]; exact (putSel_off rfl).trans rfl
        replace ha := qHs ha
        have BK101 := qHs Q_BK101
        have BK102 := qHs (Q_BK102 (hoff 23 (by kernel_rfl)))
        have HB := qHs Q_HB
        have hc0_ : w'.cell? ⟨gb101, 0, none⟩ = some (.string a0_0) := (blk_cell BK101.out 0).trans rfl
        have hc1_ : w'.cell? ⟨gb101, 1, none⟩ = some (.slice A0_1 l0_1.length c0_1) := (blk_cell BK101.out 1).trans rfl
        have hc2_ : w'.cell? ⟨gb101, 2, none⟩ = some (.slice A0_2 l0_2.length c0_2) := (blk_cell BK101.out 2).trans rfl
        have hc3_ : w'.cell? ⟨gb101, 3, none⟩ = some (.slice A0_3 l0_3.length c0_3) := (blk_cell BK101.out 3).trans rfl
        have hc4_ : w'.cell? ⟨gb101, 4, none⟩ = some (.slice A0_4 l0_4.length c0_4) := (blk_cell BK101.out 4).trans rfl
        have hc5_ : w'.cell? ⟨gb101, 5, none⟩ = some (.slice A0_5 l0_5.length c0_5) := (blk_cell BK101.out 5).trans rfl
        refine value_ (w1 := w') (v := .slice A0_3 l0_3.length c0_3) (by rfl) rfl ?_ ?_
        ·go_simp
         (try simp only [i64_w])
         try rfl
        refine hK.out _ _ ⟨v104, v107, v110, v113, v116, v119, v122, v125, v128, v131, m22_, (by rw [ha.out]; exact putSel_upk 8 hb_ rfl rfl rfl), Q_BK101, Q_BK102, Q_HB, Q_HO105, Q_HO108, Q_HO111, Q_HO114, Q_HO117, fun h0_ => absurd ((hoff 13 (by kernel_rfl)).symm.trans h0_) (by decide), Q_HO123, fun h0_ => absurd ((hoff 17 (by kernel_rfl)).symm.trans h0_) (by decide), Q_HO129, fun h0_ => absurd ((hoff 21 (by kernel_rfl)).symm.trans h0_) (by decide), fun h0_ => absurd ((hoff 23 (by kernel_rfl)).symm.trans h0_) (by decide), fun h0_ => absurd ((hoff 22 (by kernel_rfl)).symm.trans h0_) (by decide), P1, P2, P3, P4, P5, P6⟩
       refine steps_cons ?_ ?_
       ·rintro b a w' ⟨v104, v107, v110, v113, v116, v119, v122, v125, v128, v131, m22_, ha, Q_BK101, Q_BK102, Q_HB, Q_HO105, Q_HO108, Q_HO111, Q_HO114, Q_HO117, Q_HO120, Q_HO123, Q_HO126, Q_HO129, Q_HO132, Q_BK102_e23, Q_X22_, P1, P2, P3, P4, P5, P6⟩ hb_ hon hoff
        refine ⟨_, rfl, fun K hK => ?_⟩
        have e13 : a.tmps[13]? = some (v116) := by rw [ha]; exact putSel_on (e := (10, 13, v116)) 7 rfl rfl (hon 10 (by kernel_rfl)) rfl
        have e15 : a.tmps[15]? = some (.slice A0_3 l0_3.length c0_3) := by rw [ha]; exact putSel_on (e := (12, 15, .slice A0_3 l0_3.length c0_3)) 8 rfl rfl (hon 12 (by kernel_rfl)) rfl
        replace ha := qHs ha
        have BK101 := qHs Q_BK101
        have BK102 := qHs (Q_BK102 (hoff 23 (by kernel_rfl)))
        have HB := qHs Q_HB
        have HO108 := qHs (Q_HO108 (hon 5 (by kernel_rfl)))
        have HO114 := qHs (Q_HO114 (hon 9 (by kernel_rfl)))
        have HO117 := qHs (Q_HO117 (hon 10 (by kernel_rfl)) hb_)
        refine Kd.R_append_rows_step (Kd.int .u32) (w0 := w) w.heap.size (by rfl) (.tmp 13) (.tmp 15) 23 44 (.int .u32 0) 4 rfl Tryd.underlying23 info44 rfl (by decide) (by omega) v116 y115 l0_3 _ _ _ (fun _ => True) (fun _ => False) (ev_tmp e13) (ev_tmp e15) ?aO ?aR (fun _ _ h => h) (fun _ h => h.elim) ?aF ?aB ?aS ?aL ?_
        (case aR => repeat (first | exact (qHq HR0_3.out HB.out) | (with_reducible refine qHj ?_ _) | (with_reducible refine qHk ?_ _) | (with_reducible refine qHl ?_)))
        (case aB => exact (by repeat (first | (with_reducible first | exact HB.out | apply qHg | apply qHh | apply qHi | refine qHm ?_ GE101.out | refine qHm ?_ GE102.out) | exact HB.out)))
        (case aF => exact (fun _ _ => trivial))
        (case aO => exact (by (with_reducible repeat (first | apply qHa | apply qHb | apply qHc)); exact HO117.out))
        (case aS => exact (below_size (by repeat (first | (with_reducible first | exact HB.out | apply qHg | apply qHh | apply qHi | refine qHm ?_ GE101.out | refine qHm ?_ GE102.out) | exact HB.out))))
        (case aL => have := LMc4.out; omega)
        intro v119 w19 ho hb hg hat
        have N2 := fun (_ : up b 13 13 = true) (h6_ : b 14 = true) (h9_ : b 17 = false) => apart_after (P4 (hon 10 (by kernel_rfl)) hb_ h6_ h9_) hat (Kd.R_lt (Q_HO123 h6_ h9_))
        rw [← Ny118.out] at ho
        have n0_ := qHs (blk_grown (g := gb101) (o := .cells #[.string a0_0, .slice A0_1 l0_1.length c0_1, .slice A0_2 l0_2.length c0_2, .slice A0_3 l0_3.length c0_3, .slice A0_4 l0_4.length c0_4, .slice A0_5 l0_5.length c0_5] 26 (0, 0)) (by (with_reducible repeat (first | refine qHd ?_ _ | refine qHe ?_ | refine qHf ?_ _)); exact BK101.out) hg (Kd.R_ne HO117.out BK101.out (by decide)))
        have n1_ := qHs (blk_grown (g := gb102) (o := .cells #[.string (⟨#[]⟩ : ByteArray), .slice none 0 0, .slice none 0 0, .slice none 0 0, .slice none 0 0, .slice none 0 0] 26 (0, 0)) (by (with_reducible repeat (first | refine qHd ?_ _ | refine qHe ?_ | refine qHf ?_ _)); exact BK102.out) hg (Kd.R_ne HO117.out BK102.out (by decide)))
        have n2_ := qHs (Kd.R_over' (by (with_reducible repeat (first | apply qHa | apply qHb | apply qHc)); exact HO108.out) (Kd.R_typed (by (with_reducible repeat (first | apply qHa | apply qHb | apply qHc)); exact HO117.out)) (by decide) hg)
        have n3_ := qHs (Kd.R_over' (by (with_reducible repeat (first | apply qHa | apply qHb | apply qHc)); exact HO114.out) (Kd.R_typed (by (with_reducible repeat (first | apply qHa | apply qHb | apply qHc)); exact HO117.out)) (by decide) hg)
        have n4_ := qHs (hb)
        have n5_ := qHs (ho)
        have z_HO123 := fun (h0_ : b 14 = true) (h1_ : b 17 = false) => (show Kd.R (Kd.int .u32) 44 w19 w.heap.size (fun _ => True) v122 y121 from by first | exact (Kd.R_after (ok := (fun _ => True)) (by (with_reducible repeat (first | apply qHa | apply qHb | apply qHc)); exact Kd.R_flat (fun h => h) (Q_HO123 h0_ h1_) (fun k hk _ => ⟨trivial, atom_of' (P4 (hon 10 (by kernel_rfl)) hb_ h0_ h1_) hk⟩)) hg hat) | exact Kd.R_mono (Kd.R_after (ok := (fun _ => True)) (by (with_reducible repeat (first | apply qHa | apply qHb | apply qHc)); exact Kd.R_flat (fun h => h) (Q_HO123 h0_ h1_) (fun k hk _ => ⟨trivial, atom_of' (P4 (hon 10 (by kernel_rfl)) hb_ h0_ h1_) hk⟩)) hg hat) (fun _ h_ => by first | trivial | exact h_ | exact h_.1))
        have z_HO129 := fun (h0_ : b 18 = true) (h1_ : b 21 = false) => (show Kd.R k43 43 w19 w.heap.size (fun _ => True) v128 y127 from by first | exact (Kd.R_over' (by (with_reducible repeat (first | apply qHa | apply qHb | apply qHc)); exact (Q_HO129 h0_ h1_)) (Kd.R_typed (by (with_reducible repeat (first | apply qHa | apply qHb | apply qHc)); exact HO117.out)) (by decide) hg) | exact Kd.R_mono (Kd.R_over' (by (with_reducible repeat (first | apply qHa | apply qHb | apply qHc)); exact (Q_HO129 h0_ h1_)) (Kd.R_typed (by (with_reducible repeat (first | apply qHa | apply qHb | apply qHc)); exact HO117.out)) (by decide) hg) (fun _ h_ => by first | trivial | exact h_ | exact h_.1))
        clear BK101
        clear BK102
        clear HO108
        clear HO114
        clear HB
        clear HO117
        have BK101 := n0_
        have BK102 := n1_
        have HO108 := n2_
        have HO114 := n3_
        have HB := n4_
        have HO120 := n5_
        clear n0_ n1_ n2_ n3_ n4_ n5_
        clear ho hb hg hat
        refine hK.out _ _ ⟨v104, v107, v110, v113, v116, v119, v122, v125, v128, v131, m22_, (by rw [ha.out]; exact putSel_upk 9 hb_ rfl rfl rfl), (by (with_reducible repeat (first | refine qHd ?_ _ | refine qHe ?_ | refine qHf ?_ _)); exact BK101.out), fun _ => (by (with_reducible repeat (first | refine qHd ?_ _ | refine qHe ?_ | refine qHf ?_ _)); exact BK102.out), (by repeat (first | (with_reducible first | exact HB.out | apply qHg | apply qHh | apply qHi | refine qHm ?_ GE101.out | refine qHm ?_ GE102.out) | exact HB.out)), fun _ h1_ => absurd ((hon 5 (by kernel_rfl)).symm.trans h1_) (by decide), fun _ => (by (with_reducible repeat (first | apply qHa | apply qHb | apply qHc)); exact HO108.out), fun _ h1_ => absurd ((hon 9 (by kernel_rfl)).symm.trans h1_) (by decide), fun _ => (by (with_reducible repeat (first | apply qHa | apply qHb | apply qHc)); exact HO114.out), fun _ h1_ => absurd ((up_self b 13).symm.trans h1_) (by decide), fun _ => (by (with_reducible repeat (first | apply qHa | apply qHb | apply qHc)); exact HO120.out), z_HO123, fun h0_ => absurd ((hoff 17 (by kernel_rfl)).symm.trans h0_) (by decide), z_HO129, fun h0_ => absurd ((hoff 21 (by kernel_rfl)).symm.trans h0_) (by decide), fun h0_ => absurd ((hoff 23 (by kernel_rfl)).symm.trans h0_) (by decide), fun h0_ => absurd ((hoff 22 (by kernel_rfl)).symm.trans h0_) (by decide), P1, P2, P3, fun _ h0_ _ _ => absurd ((up_self b 13).symm.trans h0_) (by decide), N2, fun h0_ => absurd ((hoff 17 (by kernel_rfl)).symm.trans h0_) (by decide)⟩
       refine steps_cons ?_ ?_
       ·rintro b a w' ⟨v104, v107, v110, v113, v116, v119, v122, v125, v128, v131, m22_, ha, Q_BK101, Q_BK102, Q_HB, Q_HO105, Q_HO108, Q_HO111, Q_HO114, Q_HO117, Q_HO120, Q_HO123, Q_HO126, Q_HO129, Q_HO132, Q_BK102_e23, Q_X22_, P1, P2, P3, P4, P5, P6⟩ hb_ hon hoff
        refine ⟨_, rfl, fun K hK => ?_⟩
        replace ha := qHs ha
        have BK101 := qHs Q_BK101
        have BK102 := qHs (Q_BK102 (hoff 23 (by kernel_rfl)))
        have HB := qHs Q_HB
        refine Kd.R_lit_step (Kd.int .u32) _ 44 ?hg (N := 17) ?hd (xs := ([] : List Int)) (inner := []) (ok := fun _ => True) (okp := fun _ => True) ?hr ?hp (fun _ hk => hk) trivial (Below.refl _ _) (Nat.le_refl _) (by simp) ?_; (case hd => rfl); (case hg => rfl); (case hr => first | (go_simp; done) | (go_simp; rfl)); (case hp => exact (Reps.none _ _))
        intro v122 w10 ho11 hb hg_ hnew_
        have N1 := fun (h2_ : b 10 = true) (h5_ : b 13 = false) (_ : up b 14 14 = true) (_ : b 17 = false) => own_apart (Kd.R_lt (Q_HO117 h2_ h5_)) (Kd.R_base ho11)
        have N2 := fun (h5_ : b 13 = true) (_ : up b 14 14 = true) (_ : b 17 = false) => own_apart (Kd.R_lt (Q_HO120 h5_)) (Kd.R_base ho11)
        clear hg_ hnew_
        (first | rw [← Ny121.out] at ho11 | (simp only [Int.reduceToNat] at ho11; rw [← Ny121.out] at ho11))
        have n0_ := qHs (Kd.R_lower ho11 (below_size (by repeat (first | (with_reducible first | exact HB.out | apply qHg | apply qHh | apply qHi | refine qHm ?_ GE101.out | refine qHm ?_ GE102.out) | exact HB.out))))
        have n1_ := qHs (qHo (g := gb101) (o := .cells #[.string a0_0, .slice A0_1 l0_1.length c0_1, .slice A0_2 l0_2.length c0_2, .slice A0_3 l0_3.length c0_3, .slice A0_4 l0_4.length c0_4, .slice A0_5 l0_5.length c0_5] 26 (0, 0)) (by (with_reducible repeat (first | refine qHd ?_ _ | refine qHe ?_ | refine qHf ?_ _)); exact BK101.out) hb)
        have n2_ := qHs (qHo (g := gb102) (o := .cells #[.string (⟨#[]⟩ : ByteArray), .slice none 0 0, .slice none 0 0, .slice none 0 0, .slice none 0 0, .slice none 0 0] 26 (0, 0)) (by (with_reducible repeat (first | refine qHd ?_ _ | refine qHe ?_ | refine qHf ?_ _)); exact BK102.out) hb)
        have n3_ := qHs (qHp (by repeat (first | (with_reducible first | exact HB.out | apply qHg | apply qHh | apply qHi | refine qHm ?_ GE101.out | refine qHm ?_ GE102.out) | exact HB.out)) hb)
        have z_HO105 := fun (h0_ : b 2 = true) (h1_ : b 5 = false) => (show Kd.R Kd.string 9 w10 w.heap.size (fun _ => True) v104 y103 from by first | exact (qHn (by (with_reducible repeat (first | apply qHa | apply qHb | apply qHc)); exact (Q_HO105 h0_ h1_)) hb) | exact Kd.R_mono (qHn (by (with_reducible repeat (first | apply qHa | apply qHb | apply qHc)); exact (Q_HO105 h0_ h1_)) hb) (fun _ h_ => by first | trivial | exact h_ | exact h_.1))
        have z_HO108 := fun (h0_ : b 5 = true) => (show Kd.R Kd.string 9 w10 w.heap.size (fun _ => True) v107 y106 from by first | exact (qHn (by (with_reducible repeat (first | apply qHa | apply qHb | apply qHc)); exact (Q_HO108 h0_)) hb) | exact Kd.R_mono (qHn (by (with_reducible repeat (first | apply qHa | apply qHb | apply qHc)); exact (Q_HO108 h0_)) hb) (fun _ h_ => by first | trivial | exact h_ | exact h_.1))
        have z_HO111 := fun (h0_ : b 6 = true) (h1_ : b 9 = false) => (show Kd.R Kd.string 9 w10 w.heap.size (fun _ => True) v110 y109 from by first | exact (qHn (by (with_reducible repeat (first | apply qHa | apply qHb | apply qHc)); exact (Q_HO111 h0_ h1_)) hb) | exact Kd.R_mono (qHn (by (with_reducible repeat (first | apply qHa | apply qHb | apply qHc)); exact (Q_HO111 h0_ h1_)) hb) (fun _ h_ => by first | trivial | exact h_ | exact h_.1))
        have z_HO114 := fun (h0_ : b 9 = true) => (show Kd.R Kd.string 9 w10 w.heap.size (fun _ => True) v113 y112 from by first | exact (qHn (by (with_reducible repeat (first | apply qHa | apply qHb | apply qHc)); exact (Q_HO114 h0_)) hb) | exact Kd.R_mono (qHn (by (with_reducible repeat (first | apply qHa | apply qHb | apply qHc)); exact (Q_HO114 h0_)) hb) (fun _ h_ => by first | trivial | exact h_ | exact h_.1))
        have z_HO117 := fun (h0_ : b 10 = true) (h1_ : b 13 = false) => (show Kd.R (Kd.int .u32) 44 w10 w.heap.size (fun _ => True) v116 y115 from by first | exact (Kd.R_elder' (by (with_reducible repeat (first | apply qHa | apply qHb | apply qHc)); exact (Q_HO117 h0_ h1_)) (Kd.R_base ho11) hb) | exact Kd.R_mono (Kd.R_elder' (by (with_reducible repeat (first | apply qHa | apply qHb | apply qHc)); exact (Q_HO117 h0_ h1_)) (Kd.R_base ho11) hb) (fun _ h_ => by first | trivial | exact h_ | exact h_.1))
        have z_HO120 := fun (h0_ : b 13 = true) => (show Kd.R (Kd.int .u32) 44 w10 w.heap.size (fun _ => True) v119 y118 from by first | exact (Kd.R_elder' (by (with_reducible repeat (first | apply qHa | apply qHb | apply qHc)); exact (Q_HO120 h0_)) (Kd.R_base ho11) hb) | exact Kd.R_mono (Kd.R_elder' (by (with_reducible repeat (first | apply qHa | apply qHb | apply qHc)); exact (Q_HO120 h0_)) (Kd.R_base ho11) hb) (fun _ h_ => by first | trivial | exact h_ | exact h_.1))
        have z_HO129 := fun (h0_ : b 18 = true) (h1_ : b 21 = false) => (show Kd.R k43 43 w10 w.heap.size (fun _ => True) v128 y127 from by first | exact (qHn (by (with_reducible repeat (first | apply qHa | apply qHb | apply qHc)); exact (Q_HO129 h0_ h1_)) hb) | exact Kd.R_mono (qHn (by (with_reducible repeat (first | apply qHa | apply qHb | apply qHc)); exact (Q_HO129 h0_ h1_)) hb) (fun _ h_ => by first | trivial | exact h_ | exact h_.1))
        clear BK101
        clear BK102
        clear HB
        have HO123 := n0_
        have BK101 := n1_
        have BK102 := n2_
        have HB := n3_
        clear n0_ n1_ n2_ n3_
        clear hb ho11
        refine hK.out _ _ ⟨v104, v107, v110, v113, v116, v119, v122, v125, v128, v131, m22_, (by rw [ha.out]; exact putSel_upk 10 hb_ rfl rfl rfl), (by (with_reducible repeat (first | refine qHd ?_ _ | refine qHe ?_ | refine qHf ?_ _)); exact BK101.out), fun _ => (by (with_reducible repeat (first | refine qHd ?_ _ | refine qHe ?_ | refine qHf ?_ _)); exact BK102.out), (by repeat (first | (with_reducible first | exact HB.out | apply qHg | apply qHh | apply qHi | refine qHm ?_ GE101.out | refine qHm ?_ GE102.out) | exact HB.out)), z_HO105, z_HO108, z_HO111, z_HO114, z_HO117, z_HO120, fun _ _ => (by (with_reducible repeat (first | apply qHa | apply qHb | apply qHc)); exact HO123.out), fun h0_ => absurd ((hoff 17 (by kernel_rfl)).symm.trans h0_) (by decide), z_HO129, fun h0_ => absurd ((hoff 21 (by kernel_rfl)).symm.trans h0_) (by decide), fun h0_ => absurd ((hoff 23 (by kernel_rfl)).symm.trans h0_) (by decide), fun h0_ => absurd ((hoff 22 (by kernel_rfl)).symm.trans h0_) (by decide), P1, P2, P3, N1, N2, fun h0_ => absurd ((hoff 17 (by kernel_rfl)).symm.trans h0_) (by decide)⟩
       refine steps_cons ?_ ?_
       ·rintro b a w' ⟨v104, v107, v110, v113, v116, v119, v122, v125, v128, v131, m22_, ha, Q_BK101, Q_BK102, Q_HB, Q_HO105, Q_HO108, Q_HO111, Q_HO114, Q_HO117, Q_HO120, Q_HO123, Q_HO126, Q_HO129, Q_HO132, Q_BK102_e23, Q_X22_, P1, P2, P3, P4, P5, P6⟩ hb_ hon hoff
        refine ⟨_, rfl, fun K hK => ?_⟩
        have e18 : a.tmps[18]? = some (.pointer (some ⟨gb101, 4, none⟩)) := by rw [ha]; exact (putSel_off rfl).trans rfl
        replace ha := qHs ha
        have BK101 := qHs Q_BK101
        have BK102 := qHs (Q_BK102 (hoff 23 (by kernel_rfl)))
        have HB := qHs Q_HB
        have hc0_ : w'.cell? ⟨gb101, 0, none⟩ = some (.string a0_0) := (blk_cell BK101.out 0).trans rfl
        have hc1_ : w'.cell? ⟨gb101, 1, none⟩ = some (.slice A0_1 l0_1.length c0_1) := (blk_cell BK101.out 1).trans rfl
        have hc2_ : w'.cell? ⟨gb101, 2, none⟩ = some (.slice A0_2 l0_2.length c0_2) := (blk_cell BK101.out 2).trans rfl
        have hc3_ : w'.cell? ⟨gb101, 3, none⟩ = some (.slice A0_3 l0_3.length c0_3) := (blk_cell BK101.out 3).trans rfl
        have hc4_ : w'.cell? ⟨gb101, 4, none⟩ = some (.slice A0_4 l0_4.length c0_4) := (blk_cell BK101.out 4).trans rfl
        have hc5_ : w'.cell? ⟨gb101, 5, none⟩ = some (.slice A0_5 l0_5.length c0_5) := (blk_cell BK101.out 5).trans rfl
        refine value_ (w1 := w') (v := .slice A0_4 l0_4.length c0_4) (by rfl) rfl ?_ ?_
        ·go_simp
         (try simp only [i64_w])
         try rfl
        refine hK.out _ _ ⟨v104, v107, v110, v113, v116, v119, v122, v125, v128, v131, m22_, (by rw [ha.out]; exact putSel_upk 11 hb_ rfl rfl rfl), Q_BK101, Q_BK102, Q_HB, Q_HO105, Q_HO108, Q_HO111, Q_HO114, Q_HO117, Q_HO120, Q_HO123, fun h0_ => absurd ((hoff 17 (by kernel_rfl)).symm.trans h0_) (by decide), Q_HO129, fun h0_ => absurd ((hoff 21 (by kernel_rfl)).symm.trans h0_) (by decide), fun h0_ => absurd ((hoff 23 (by kernel_rfl)).symm.trans h0_) (by decide), fun h0_ => absurd ((hoff 22 (by kernel_rfl)).symm.trans h0_) (by decide), P1, P2, P3, P4, P5, P6⟩
       refine steps_cons ?_ ?_
       ·rintro b a w' ⟨v104, v107, v110, v113, v116, v119, v122, v125, v128, v131, m22_, ha, Q_BK101, Q_BK102, Q_HB, Q_HO105, Q_HO108, Q_HO111, Q_HO114, Q_HO117, Q_HO120, Q_HO123, Q_HO126, Q_HO129, Q_HO132, Q_BK102_e23, Q_X22_, P1, P2, P3, P4, P5, P6⟩ hb_ hon hoff
        refine ⟨_, rfl, fun K hK => ?_⟩
        have e17 : a.tmps[17]? = some (v122) := by rw [ha]; exact putSel_on (e := (14, 17, v122)) 10 rfl rfl (hon 14 (by kernel_rfl)) rfl
        have e19 : a.tmps[19]? = some (.slice A0_4 l0_4.length c0_4) := by rw [ha]; exact putSel_on (e := (16, 19, .slice A0_4 l0_4.length c0_4)) 11 rfl rfl (hon 16 (by kernel_rfl)) rfl
        replace ha := qHs ha
        have BK101 := qHs Q_BK101
        have BK102 := qHs (Q_BK102 (hoff 23 (by kernel_rfl)))
        have HB := qHs Q_HB
        have HO108 := qHs (Q_HO108 (hon 5 (by kernel_rfl)))
        have HO114 := qHs (Q_HO114 (hon 9 (by kernel_rfl)))
        have HO120 := qHs (Q_HO120 (hon 13 (by kernel_rfl)))
        have HO123 := qHs (Q_HO123 (hon 14 (by kernel_rfl)) hb_)
        refine Kd.R_append_rows_step (Kd.int .u32) (w0 := w) w.heap.size (by rfl) (.tmp 17) (.tmp 19) 23 44 (.int .u32 0) 4 rfl Tryd.underlying23 info44 rfl (by decide) (by omega) v122 y121 l0_4 _ _ _ (fun _ => True) (fun _ => False) (ev_tmp e17) (ev_tmp e19) ?aO ?aR (fun _ _ h => h) (fun _ h => h.elim) ?aF ?aB ?aS ?aL ?_
        (case aR => repeat (first | exact (qHq HR0_4.out HB.out) | (with_reducible refine qHj ?_ _) | (with_reducible refine qHk ?_ _) | (with_reducible refine qHl ?_)))
        (case aB => exact (by repeat (first | (with_reducible first | exact HB.out | apply qHg | apply qHh | apply qHi | refine qHm ?_ GE101.out | refine qHm ?_ GE102.out) | exact HB.out)))
        (case aF => exact (fun _ _ => trivial))
        (case aO => exact (by (with_reducible repeat (first | apply qHa | apply qHb | apply qHc)); exact HO123.out))
        (case aS => exact (below_size (by repeat (first | (with_reducible first | exact HB.out | apply qHg | apply qHh | apply qHi | refine qHm ?_ GE101.out | refine qHm ?_ GE102.out) | exact HB.out))))
        (case aL => have := LMc5.out; omega)
        intro v125 w22 ho hb hg hat
        have N3 := fun (_ : up b 17 17 = true) => apart_after' (P5 (hon 13 (by kernel_rfl)) (hon 14 (by kernel_rfl)) hb_) hat (Kd.R_lt (Q_HO120 (hon 13 (by kernel_rfl))))
        rw [← Ny124.out] at ho
        have n0_ := qHs (blk_grown (g := gb101) (o := .cells #[.string a0_0, .slice A0_1 l0_1.length c0_1, .slice A0_2 l0_2.length c0_2, .slice A0_3 l0_3.length c0_3, .slice A0_4 l0_4.length c0_4, .slice A0_5 l0_5.length c0_5] 26 (0, 0)) (by (with_reducible repeat (first | refine qHd ?_ _ | refine qHe ?_ | refine qHf ?_ _)); exact BK101.out) hg (Kd.R_ne HO123.out BK101.out (by decide)))
        have n1_ := qHs (blk_grown (g := gb102) (o := .cells #[.string (⟨#[]⟩ : ByteArray), .slice none 0 0, .slice none 0 0, .slice none 0 0, .slice none 0 0, .slice none 0 0] 26 (0, 0)) (by (with_reducible repeat (first | refine qHd ?_ _ | refine qHe ?_ | refine qHf ?_ _)); exact BK102.out) hg (Kd.R_ne HO123.out BK102.out (by decide)))
        have n2_ := qHs (Kd.R_over' (by (with_reducible repeat (first | apply qHa | apply qHb | apply qHc)); exact HO108.out) (Kd.R_typed (by (with_reducible repeat (first | apply qHa | apply qHb | apply qHc)); exact HO123.out)) (by decide) hg)
        have n3_ := qHs (Kd.R_over' (by (with_reducible repeat (first | apply qHa | apply qHb | apply qHc)); exact HO114.out) (Kd.R_typed (by (with_reducible repeat (first | apply qHa | apply qHb | apply qHc)); exact HO123.out)) (by decide) hg)
        have n4_ := qHs (Kd.R_after (ok := (fun _ => True)) (by (with_reducible repeat (first | apply qHa | apply qHb | apply qHc)); exact Kd.R_flat (fun h => h) HO120.out (fun k hk _ => ⟨trivial, atom_of (P5 (hon 13 (by kernel_rfl)) (hon 14 (by kernel_rfl)) hb_) hk⟩)) hg hat)
        have n5_ := qHs (hb)
        have n6_ := qHs (ho)
        have z_HO129 := fun (h0_ : b 18 = true) (h1_ : b 21 = false) => (show Kd.R k43 43 w22 w.heap.size (fun _ => True) v128 y127 from by first | exact (Kd.R_over' (by (with_reducible repeat (first | apply qHa | apply qHb | apply qHc)); exact (Q_HO129 h0_ h1_)) (Kd.R_typed (by (with_reducible repeat (first | apply qHa | apply qHb | apply qHc)); exact HO123.out)) (by decide) hg) | exact Kd.R_mono (Kd.R_over' (by (with_reducible repeat (first | apply qHa | apply qHb | apply qHc)); exact (Q_HO129 h0_ h1_)) (Kd.R_typed (by (with_reducible repeat (first | apply qHa | apply qHb | apply qHc)); exact HO123.out)) (by decide) hg) (fun _ h_ => by first | trivial | exact h_ | exact h_.1))
        clear BK101
        clear BK102
        clear HO108
        clear HO114
        clear HO120
        clear HB
        clear HO123
        have BK101 := n0_
        have BK102 := n1_
        have HO108 := n2_
        have HO114 := n3_
        have HO120 := n4_
        have HB := n5_
        have HO126 := n6_
        clear n0_ n1_ n2_ n3_ n4_ n5_ n6_
        clear ho hb hg hat
        refine hK.out _ _ ⟨v104, v107, v110, v113, v116, v119, v122, v125, v128, v131, m22_, (by rw [ha.out]; exact putSel_upk 12 hb_ rfl rfl rfl), (by (with_reducible repeat (first | refine qHd ?_ _ | refine qHe ?_ | refine qHf ?_ _)); exact BK101.out), fun _ => (by (with_reducible repeat (first | refine qHd ?_ _ | refine qHe ?_ | refine qHf ?_ _)); exact BK102.out), (by repeat (first | (with_reducible first | exact HB.out | apply qHg | apply qHh | apply qHi | refine qHm ?_ GE101.out | refine qHm ?_ GE102.out) | exact HB.out)), fun _ h1_ => absurd ((hon 5 (by kernel_rfl)).symm.trans h1_) (by decide), fun _ => (by (with_reducible repeat (first | apply qHa | apply qHb | apply qHc)); exact HO108.out), fun _ h1_ => absurd ((hon 9 (by kernel_rfl)).symm.trans h1_) (by decide), fun _ => (by (with_reducible repeat (first | apply qHa | apply qHb | apply qHc)); exact HO114.out), fun _ h1_ => absurd ((hon 13 (by kernel_rfl)).symm.trans h1_) (by decide), fun _ => (by (with_reducible repeat (first | apply qHa | apply qHb | apply qHc)); exact Kd.R_mono HO120.out (fun _ _ => trivial)), fun _ h1_ => absurd ((up_self b 17).symm.trans h1_) (by decide), fun _ => (by (with_reducible repeat (first | apply qHa | apply qHb | apply qHc)); exact HO126.out), z_HO129, fun h0_ => absurd ((hoff 21 (by kernel_rfl)).symm.trans h0_) (by decide), fun h0_ => absurd ((hoff 23 (by kernel_rfl)).symm.trans h0_) (by decide), fun h0_ => absurd ((hoff 22 (by kernel_rfl)).symm.trans h0_) (by decide), P1, P2, P3, fun _ h0_ _ _ => absurd ((hon 13 (by kernel_rfl)).symm.trans h0_) (by decide), fun _ _ h0_ => absurd ((up_self b 17).symm.trans h0_) (by decide), N3⟩
       refine steps_cons ?_ ?_
       ·rintro b a w' ⟨v104, v107, v110, v113, v116, v119, v122, v125, v128, v131, m22_, ha, Q_BK101, Q_BK102, Q_HB, Q_HO105, Q_HO108, Q_HO111, Q_HO114, Q_HO117, Q_HO120, Q_HO123, Q_HO126, Q_HO129, Q_HO132, Q_BK102_e23, Q_X22_, P1, P2, P3, P4, P5, P6⟩ hb_ hon hoff
        refine ⟨_, rfl, fun K hK => ?_⟩
        replace ha := qHs ha
        have BK101 := qHs Q_BK101
        have BK102 := qHs (Q_BK102 (hoff 23 (by kernel_rfl)))
        have HB := qHs Q_HB
        refine Kd.R_lit_step k43 _ 43 ?hg (N := 21) ?hd (xs := ([] : List (S43))) (inner := []) (ok := fun _ => True) (okp := fun _ => True) ?hr ?hp (fun _ hk => hk) trivial (Below.refl _ _) (Nat.le_refl _) (by simp) ?_; (case hd => rfl); (case hg => rfl); (case hr => first | (go_simp; done) | (go_simp; rfl)); (case hp => exact (Reps.none _ _))
        intro v128 w10 ho11 hb hg_ hnew_
        clear hg_ hnew_
        (first | rw [← Ny127.out] at ho11 | (simp only [Int.reduceToNat] at ho11; rw [← Ny127.out] at ho11))
        have n0_ := qHs (Kd.R_lower ho11 (below_size (by repeat (first | (with_reducible first | exact HB.out | apply qHg | apply qHh | apply qHi | refine qHm ?_ GE101.out | refine qHm ?_ GE102.out) | exact HB.out))))
        have n1_ := qHs (qHo (g := gb101) (o := .cells #[.string a0_0, .slice A0_1 l0_1.length c0_1, .slice A0_2 l0_2.length c0_2, .slice A0_3 l0_3.length c0_3, .slice A0_4 l0_4.length c0_4, .slice A0_5 l0_5.length c0_5] 26 (0, 0)) (by (with_reducible repeat (first | refine qHd ?_ _ | refine qHe ?_ | refine qHf ?_ _)); exact BK101.out) hb)
        have n2_ := qHs (qHo (g := gb102) (o := .cells #[.string (⟨#[]⟩ : ByteArray), .slice none 0 0, .slice none 0 0, .slice none 0 0, .slice none 0 0, .slice none 0 0] 26 (0, 0)) (by (with_reducible repeat (first | refine qHd ?_ _ | refine qHe ?_ | refine qHf ?_ _)); exact BK102.out) hb)
        have n3_ := qHs (qHp (by repeat (first | (with_reducible first | exact HB.out | apply qHg | apply qHh | apply qHi | refine qHm ?_ GE101.out | refine qHm ?_ GE102.out) | exact HB.out)) hb)
        have z_HO105 := fun (h0_ : b 2 = true) (h1_ : b 5 = false) => (show Kd.R Kd.string 9 w10 w.heap.size (fun _ => True) v104 y103 from by first | exact (qHn (by (with_reducible repeat (first | apply qHa | apply qHb | apply qHc)); exact (Q_HO105 h0_ h1_)) hb) | exact Kd.R_mono (qHn (by (with_reducible repeat (first | apply qHa | apply qHb | apply qHc)); exact (Q_HO105 h0_ h1_)) hb) (fun _ h_ => by first | trivial | exact h_ | exact h_.1))
        have z_HO108 := fun (h0_ : b 5 = true) => (show Kd.R Kd.string 9 w10 w.heap.size (fun _ => True) v107 y106 from by first | exact (qHn (by (with_reducible repeat (first | apply qHa | apply qHb | apply qHc)); exact (Q_HO108 h0_)) hb) | exact Kd.R_mono (qHn (by (with_reducible repeat (first | apply qHa | apply qHb | apply qHc)); exact (Q_HO108 h0_)) hb) (fun _ h_ => by first | trivial | exact h_ | exact h_.1))
        have z_HO111 := fun (h0_ : b 6 = true) (h1_ : b 9 = false) => (show Kd.R Kd.string 9 w10 w.heap.size (fun _ => True) v110 y109 from by first | exact (qHn (by (with_reducible repeat (first | apply qHa | apply qHb | apply qHc)); exact (Q_HO111 h0_ h1_)) hb) | exact Kd.R_mono (qHn (by (with_reducible repeat (first | apply qHa | apply qHb | apply qHc)); exact (Q_HO111 h0_ h1_)) hb) (fun _ h_ => by first | trivial | exact h_ | exact h_.1))
        have z_HO114 := fun (h0_ : b 9 = true) => (show Kd.R Kd.string 9 w10 w.heap.size (fun _ => True) v113 y112 from by first | exact (qHn (by (with_reducible repeat (first | apply qHa | apply qHb | apply qHc)); exact (Q_HO114 h0_)) hb) | exact Kd.R_mono (qHn (by (with_reducible repeat (first | apply qHa | apply qHb | apply qHc)); exact (Q_HO114 h0_)) hb) (fun _ h_ => by first | trivial | exact h_ | exact h_.1))
        have z_HO117 := fun (h0_ : b 10 = true) (h1_ : b 13 = false) => (show Kd.R (Kd.int .u32) 44 w10 w.heap.size (fun _ => True) v116 y115 from by first | exact (qHn (by (with_reducible repeat (first | apply qHa | apply qHb | apply qHc)); exact (Q_HO117 h0_ h1_)) hb) | exact Kd.R_mono (qHn (by (with_reducible repeat (first | apply qHa | apply qHb | apply qHc)); exact (Q_HO117 h0_ h1_)) hb) (fun _ h_ => by first | trivial | exact h_ | exact h_.1))
        have z_HO120 := fun (h0_ : b 13 = true) => (show Kd.R (Kd.int .u32) 44 w10 w.heap.size (fun _ => True) v119 y118 from by first | exact (qHn (by (with_reducible repeat (first | apply qHa | apply qHb | apply qHc)); exact (Q_HO120 h0_)) hb) | exact Kd.R_mono (qHn (by (with_reducible repeat (first | apply qHa | apply qHb | apply qHc)); exact (Q_HO120 h0_)) hb) (fun _ h_ => by first | trivial | exact h_ | exact h_.1))
        have z_HO123 := fun (h0_ : b 14 = true) (h1_ : b 17 = false) => (show Kd.R (Kd.int .u32) 44 w10 w.heap.size (fun _ => True) v122 y121 from by first | exact (qHn (by (with_reducible repeat (first | apply qHa | apply qHb | apply qHc)); exact (Q_HO123 h0_ h1_)) hb) | exact Kd.R_mono (qHn (by (with_reducible repeat (first | apply qHa | apply qHb | apply qHc)); exact (Q_HO123 h0_ h1_)) hb) (fun _ h_ => by first | trivial | exact h_ | exact h_.1))
        have z_HO126 := fun (h0_ : b 17 = true) => (show Kd.R (Kd.int .u32) 44 w10 w.heap.size (fun _ => True) v125 y124 from by first | exact (qHn (by (with_reducible repeat (first | apply qHa | apply qHb | apply qHc)); exact (Q_HO126 h0_)) hb) | exact Kd.R_mono (qHn (by (with_reducible repeat (first | apply qHa | apply qHb | apply qHc)); exact (Q_HO126 h0_)) hb) (fun _ h_ => by first | trivial | exact h_ | exact h_.1))
        clear BK101
        clear BK102
        clear HB
        have HO129 := n0_
        have BK101 := n1_
        have BK102 := n2_
        have HB := n3_
        clear n0_ n1_ n2_ n3_
        clear hb ho11
        refine hK.out _ _ ⟨v104, v107, v110, v113, v116, v119, v122, v125, v128, v131, m22_, (by rw [ha.out]; exact putSel_upk 13 hb_ rfl rfl rfl), (by (with_reducible repeat (first | refine qHd ?_ _ | refine qHe ?_ | refine qHf ?_ _)); exact BK101.out), fun _ => (by (with_reducible repeat (first | refine qHd ?_ _ | refine qHe ?_ | refine qHf ?_ _)); exact BK102.out), (by repeat (first | (with_reducible first | exact HB.out | apply qHg | apply qHh | apply qHi | refine qHm ?_ GE101.out | refine qHm ?_ GE102.out) | exact HB.out)), z_HO105, z_HO108, z_HO111, z_HO114, z_HO117, z_HO120, z_HO123, z_HO126, fun _ _ => (by (with_reducible repeat (first | apply qHa | apply qHb | apply qHc)); exact HO129.out), fun h0_ => absurd ((hoff 21 (by kernel_rfl)).symm.trans h0_) (by decide), fun h0_ => absurd ((hoff 23 (by kernel_rfl)).symm.trans h0_) (by decide), fun h0_ => absurd ((hoff 22 (by kernel_rfl)).symm.trans h0_) (by decide), P1, P2, P3, P4, P5, P6⟩
       refine steps_cons ?_ ?_
       ·rintro b a w' ⟨v104, v107, v110, v113, v116, v119, v122, v125, v128, v131, m22_, ha, Q_BK101, Q_BK102, Q_HB, Q_HO105, Q_HO108, Q_HO111, Q_HO114, Q_HO117, Q_HO120, Q_HO123, Q_HO126, Q_HO129, Q_HO132, Q_BK102_e23, Q_X22_, P1, P2, P3, P4, P5, P6⟩ hb_ hon hoff
        refine ⟨_, rfl, fun K hK => ?_⟩
        have e22 : a.tmps[22]? = some (.pointer (some ⟨gb101, 5, none⟩)) := by rw [ha]; exact (putSel_off rfl).trans rfl
        replace ha := qHs ha
        have BK101 := qHs Q_BK101
        have BK102 := qHs (Q_BK102 (hoff 23 (by kernel_rfl)))
        have HB := qHs Q_HB
        have hc0_ : w'.cell? ⟨gb101, 0, none⟩ = some (.string a0_0) := (blk_cell BK101.out 0).trans rfl
        have hc1_ : w'.cell? ⟨gb101, 1, none⟩ = some (.slice A0_1 l0_1.length c0_1) := (blk_cell BK101.out 1).trans rfl
        have hc2_ : w'.cell? ⟨gb101, 2, none⟩ = some (.slice A0_2 l0_2.length c0_2) := (blk_cell BK101.out 2).trans rfl
        have hc3_ : w'.cell? ⟨gb101, 3, none⟩ = some (.slice A0_3 l0_3.length c0_3) := (blk_cell BK101.out 3).trans rfl
        have hc4_ : w'.cell? ⟨gb101, 4, none⟩ = some (.slice A0_4 l0_4.length c0_4) := (blk_cell BK101.out 4).trans rfl
        have hc5_ : w'.cell? ⟨gb101, 5, none⟩ = some (.slice A0_5 l0_5.length c0_5) := (blk_cell BK101.out 5).trans rfl
        refine value_ (w1 := w') (v := .slice A0_5 l0_5.length c0_5) (by rfl) rfl ?_ ?_
        ·go_simp
         (try simp only [i64_w])
         try rfl
        refine hK.out _ _ ⟨v104, v107, v110, v113, v116, v119, v122, v125, v128, v131, m22_, (by rw [ha.out]; exact putSel_upk 14 hb_ rfl rfl rfl), Q_BK101, Q_BK102, Q_HB, Q_HO105, Q_HO108, Q_HO111, Q_HO114, Q_HO117, Q_HO120, Q_HO123, Q_HO126, Q_HO129, fun h0_ => absurd ((hoff 21 (by kernel_rfl)).symm.trans h0_) (by decide), fun h0_ => absurd ((hoff 23 (by kernel_rfl)).symm.trans h0_) (by decide), fun h0_ => absurd ((hoff 22 (by kernel_rfl)).symm.trans h0_) (by decide), P1, P2, P3, P4, P5, P6⟩
       refine steps_cons ?_ ?_
       ·rintro b a w' ⟨v104, v107, v110, v113, v116, v119, v122, v125, v128, v131, m22_, ha, Q_BK101, Q_BK102, Q_HB, Q_HO105, Q_HO108, Q_HO111, Q_HO114, Q_HO117, Q_HO120, Q_HO123, Q_HO126, Q_HO129, Q_HO132, Q_BK102_e23, Q_X22_, P1, P2, P3, P4, P5, P6⟩ hb_ hon hoff
        refine ⟨_, rfl, fun K hK => ?_⟩
        have e21 : a.tmps[21]? = some (v128) := by rw [ha]; exact putSel_on (e := (18, 21, v128)) 13 rfl rfl (hon 18 (by kernel_rfl)) rfl
        have e23 : a.tmps[23]? = some (.slice A0_5 l0_5.length c0_5) := by rw [ha]; exact putSel_on (e := (20, 23, .slice A0_5 l0_5.length c0_5)) 14 rfl rfl (hon 20 (by kernel_rfl)) rfl
        replace ha := qHs ha
        have BK101 := qHs Q_BK101
        have BK102 := qHs (Q_BK102 (hoff 23 (by kernel_rfl)))
        have HB := qHs Q_HB
        have HO108 := qHs (Q_HO108 (hon 5 (by kernel_rfl)))
        have HO114 := qHs (Q_HO114 (hon 9 (by kernel_rfl)))
        have HO120 := qHs (Q_HO120 (hon 13 (by kernel_rfl)))
        have HO126 := qHs (Q_HO126 (hon 17 (by kernel_rfl)))
        have HO129 := qHs (Q_HO129 (hon 18 (by kernel_rfl)) hb_)
        refine Kd.R_append_rows_step k43 (w0 := w) w.heap.size (by rfl) (.tmp 21) (.tmp 23) 24 43 (.agg #[(.int .u8 0), (.int .u16 0), (.int .u16 0)]) 6 rfl Tryd.underlying24 info43 rfl (by decide) (by omega) v128 y127 l0_5 _ _ _ (fun _ => True) (fun _ => False) (ev_tmp e21) (ev_tmp e23) ?aO ?aR (fun _ _ h => h) (fun _ h => h.elim) ?aF ?aB ?aS ?aL ?_
        (case aR => repeat (first | exact (qHq HR0_5.out HB.out) | (with_reducible refine qHj ?_ _) | (with_reducible refine qHk ?_ _) | (with_reducible refine qHl ?_)))
        (case aB => exact (by repeat (first | (with_reducible first | exact HB.out | apply qHg | apply qHh | apply qHi | refine qHm ?_ GE101.out | refine qHm ?_ GE102.out) | exact HB.out)))
        (case aF => exact (fun _ _ => trivial))
        (case aO => exact (by (with_reducible repeat (first | apply qHa | apply qHb | apply qHc)); exact HO129.out))
        (case aS => exact (below_size (by repeat (first | (with_reducible first | exact HB.out | apply qHg | apply qHh | apply qHi | refine qHm ?_ GE101.out | refine qHm ?_ GE102.out) | exact HB.out))))
        (case aL => have := LMc6.out; omega)
        intro v131 w25 ho hb hg hat
        rw [← Ny130.out] at ho
        have n0_ := qHs (blk_grown (g := gb101) (o := .cells #[.string a0_0, .slice A0_1 l0_1.length c0_1, .slice A0_2 l0_2.length c0_2, .slice A0_3 l0_3.length c0_3, .slice A0_4 l0_4.length c0_4, .slice A0_5 l0_5.length c0_5] 26 (0, 0)) (by (with_reducible repeat (first | refine qHd ?_ _ | refine qHe ?_ | refine qHf ?_ _)); exact BK101.out) hg (Kd.R_ne HO129.out BK101.out (by decide)))
        have n1_ := qHs (blk_grown (g := gb102) (o := .cells #[.string (⟨#[]⟩ : ByteArray), .slice none 0 0, .slice none 0 0, .slice none 0 0, .slice none 0 0, .slice none 0 0] 26 (0, 0)) (by (with_reducible repeat (first | refine qHd ?_ _ | refine qHe ?_ | refine qHf ?_ _)); exact BK102.out) hg (Kd.R_ne HO129.out BK102.out (by decide)))
        have n2_ := qHs (Kd.R_over' (by (with_reducible repeat (first | apply qHa | apply qHb | apply qHc)); exact HO108.out) (Kd.R_typed (by (with_reducible repeat (first | apply qHa | apply qHb | apply qHc)); exact HO129.out)) (by decide) hg)
        have n3_ := qHs (Kd.R_over' (by (with_reducible repeat (first | apply qHa | apply qHb | apply qHc)); exact HO114.out) (Kd.R_typed (by (with_reducible repeat (first | apply qHa | apply qHb | apply qHc)); exact HO129.out)) (by decide) hg)
        have n4_ := qHs (Kd.R_over' (by (with_reducible repeat (first | apply qHa | apply qHb | apply qHc)); exact HO120.out) (Kd.R_typed (by (with_reducible repeat (first | apply qHa | apply qHb | apply qHc)); exact HO129.out)) (by decide) hg)
        have n5_ := qHs (Kd.R_over' (by (with_reducible repeat (first | apply qHa | apply qHb | apply qHc)); exact HO126.out) (Kd.R_typed (by (with_reducible repeat (first | apply qHa | apply qHb | apply qHc)); exact HO129.out)) (by decide) hg)
        have n6_ := qHs (hb)
        have n7_ := qHs (ho)
        clear BK101
        clear BK102
        clear HO108
        clear HO114
        clear HO120
        clear HO126
        clear HB
        clear HO129
        have BK101 := n0_
        have BK102 := n1_
        have HO108 := n2_
        have HO114 := n3_
        have HO120 := n4_
        have HO126 := n5_
        have HB := n6_
        have HO132 := n7_
        clear n0_ n1_ n2_ n3_ n4_ n5_ n6_ n7_
        clear ho hb hg hat
        obtain ⟨Ao26, co26, eo26⟩ := Kd.R_slice HO132.out
        (first | subst eo26 | (injection eo26 with f1_ f2_ f3_; have f4_ := f1_.symm; have f5_ := f3_.symm; clear f1_ f2_ f3_; subst f4_; subst f5_))
        obtain ⟨Ao27, co27, eo27⟩ := Kd.R_slice HO126.out
        (first | subst eo27 | (injection eo27 with f1_ f2_ f3_; have f4_ := f1_.symm; have f5_ := f3_.symm; clear f1_ f2_ f3_; subst f4_; subst f5_))
        obtain ⟨Ao28, co28, eo28⟩ := Kd.R_slice HO120.out
        (first | subst eo28 | (injection eo28 with f1_ f2_ f3_; have f4_ := f1_.symm; have f5_ := f3_.symm; clear f1_ f2_ f3_; subst f4_; subst f5_))
        obtain ⟨Ao29, co29, eo29⟩ := Kd.R_slice HO114.out
        (first | subst eo29 | (injection eo29 with f1_ f2_ f3_; have f4_ := f1_.symm; have f5_ := f3_.symm; clear f1_ f2_ f3_; subst f4_; subst f5_))
        obtain ⟨Ao30, co30, eo30⟩ := Kd.R_slice HO108.out
        (first | subst eo30 | (injection eo30 with f1_ f2_ f3_; have f4_ := f1_.symm; have f5_ := f3_.symm; clear f1_ f2_ f3_; subst f4_; subst f5_))
        refine hK.out _ _ ⟨v104, .slice Ao30 y106.length co30, v110, .slice Ao29 y112.length co29, v116, .slice Ao28 y118.length co28, v122, .slice Ao27 y124.length co27, v128, .slice Ao26 y130.length co26, m22_, (by rw [ha.out]; exact putSel_upk 15 hb_ rfl rfl rfl), (by (with_reducible repeat (first | refine qHd ?_ _ | refine qHe ?_ | refine qHf ?_ _)); exact BK101.out), fun _ => (by (with_reducible repeat (first | refine qHd ?_ _ | refine qHe ?_ | refine qHf ?_ _)); exact BK102.out), (by repeat (first | (with_reducible first | exact HB.out | apply qHg | apply qHh | apply qHi | refine qHm ?_ GE101.out | refine qHm ?_ GE102.out) | exact HB.out)), fun _ h1_ => absurd ((hon 5 (by kernel_rfl)).symm.trans h1_) (by decide), fun _ => (by (with_reducible repeat (first | apply qHa | apply qHb | apply qHc)); exact HO108.out), fun _ h1_ => absurd ((hon 9 (by kernel_rfl)).symm.trans h1_) (by decide), fun _ => (by (with_reducible repeat (first | apply qHa | apply qHb | apply qHc)); exact HO114.out), fun _ h1_ => absurd ((hon 13 (by kernel_rfl)).symm.trans h1_) (by decide), fun _ => (by (with_reducible repeat (first | apply qHa | apply qHb | apply qHc)); exact HO120.out), fun _ h1_ => absurd ((hon 17 (by kernel_rfl)).symm.trans h1_) (by decide), fun _ => (by (with_reducible repeat (first | apply qHa | apply qHb | apply qHc)); exact HO126.out), fun _ h1_ => absurd ((up_self b 21).symm.trans h1_) (by decide), fun _ => (by (with_reducible repeat (first | apply qHa | apply qHb | apply qHc)); exact HO132.out), fun h0_ => absurd ((hoff 23 (by kernel_rfl)).symm.trans h0_) (by decide), fun h0_ => absurd ((hoff 22 (by kernel_rfl)).symm.trans h0_) (by decide), P1, P2, P3, P4, P5, P6⟩
       refine steps_cons ?_ ?_
       ·rintro b a w' ⟨v104, v107, v110, v113, v116, v119, v122, v125, v128, v131, m22_, ha, Q_BK101, Q_BK102, Q_HB, Q_HO105, Q_HO108, Q_HO111, Q_HO114, Q_HO117, Q_HO120, Q_HO123, Q_HO126, Q_HO129, Q_HO132, Q_BK102_e23, Q_X22_, P1, P2, P3, P4, P5, P6⟩ hb_ hon hoff
        refine ⟨_, rfl, fun K hK => ?_⟩
        have e4 : a.tmps[4]? = some (.string a0_0) := by rw [ha]; exact putSel_on (e := (1, 4, .string a0_0)) 0 rfl rfl (hon 1 (by kernel_rfl)) rfl
        have e8 : a.tmps[8]? = some (v107) := by rw [ha]; exact putSel_on (e := (5, 8, v107)) 3 rfl rfl (hon 5 (by kernel_rfl)) rfl
        have e12 : a.tmps[12]? = some (v113) := by rw [ha]; exact putSel_on (e := (9, 12, v113)) 6 rfl rfl (hon 9 (by kernel_rfl)) rfl
        have e16 : a.tmps[16]? = some (v119) := by rw [ha]; exact putSel_on (e := (13, 16, v119)) 9 rfl rfl (hon 13 (by kernel_rfl)) rfl
        have e20 : a.tmps[20]? = some (v125) := by rw [ha]; exact putSel_on (e := (17, 20, v125)) 12 rfl rfl (hon 17 (by kernel_rfl)) rfl
        have e24 : a.tmps[24]? = some (v131) := by rw [ha]; exact putSel_on (e := (21, 24, v131)) 15 rfl rfl (hon 21 (by kernel_rfl)) rfl
        replace ha := qHs ha
        have BK101 := qHs Q_BK101
        have BK102 := qHs (Q_BK102 (hoff 23 (by kernel_rfl)))
        have HB := qHs Q_HB
        have HO108 := qHs (Q_HO108 (hon 5 (by kernel_rfl)))
        have HO114 := qHs (Q_HO114 (hon 9 (by kernel_rfl)))
        have HO120 := qHs (Q_HO120 (hon 13 (by kernel_rfl)))
        have HO126 := qHs (Q_HO126 (hon 17 (by kernel_rfl)))
        have HO132 := qHs (Q_HO132 (hon 21 (by kernel_rfl)))
        obtain ⟨Ao22_0, co22_0, eo_⟩ := Kd.R_slice HO108.out
        subst eo_
        obtain ⟨Ao22_1, co22_1, eo_⟩ := Kd.R_slice HO114.out
        subst eo_
        obtain ⟨Ao22_2, co22_2, eo_⟩ := Kd.R_slice HO120.out
        subst eo_
        obtain ⟨Ao22_3, co22_3, eo_⟩ := Kd.R_slice HO126.out
        subst eo_
        obtain ⟨Ao22_4, co22_4, eo_⟩ := Kd.R_slice HO132.out
        subst eo_
        refine value_ (w1 := w') (v := .agg #[.string a0_0, .slice Ao22_0 y106.length co22_0, .slice Ao22_1 y112.length co22_1, .slice Ao22_2 y118.length co22_2, .slice Ao22_3 y124.length co22_3, .slice Ao22_4 y130.length co22_4]) (by rfl) rfl ?_ ?_
        ·go_simp
         (try simp only [i64_w])
         try rfl
        refine hK.out _ _ ⟨v104, .slice Ao22_0 y106.length co22_0, v110, .slice Ao22_1 y112.length co22_1, v116, .slice Ao22_2 y118.length co22_2, v122, .slice Ao22_3 y124.length co22_3, v128, .slice Ao22_4 y130.length co22_4, (.agg #[.string a0_0, .slice Ao22_0 y106.length co22_0, .slice Ao22_1 y112.length co22_1, .slice Ao22_2 y118.length co22_2, .slice Ao22_3 y124.length co22_3, .slice Ao22_4 y130.length co22_4]), (by rw [ha.out]; exact putSel_upk 16 hb_ rfl rfl rfl), Q_BK101, Q_BK102, Q_HB, fun _ h1_ => absurd ((hon 5 (by kernel_rfl)).symm.trans h1_) (by decide), Q_HO108, fun _ h1_ => absurd ((hon 9 (by kernel_rfl)).symm.trans h1_) (by decide), Q_HO114, fun _ h1_ => absurd ((hon 13 (by kernel_rfl)).symm.trans h1_) (by decide), Q_HO120, fun _ h1_ => absurd ((hon 17 (by kernel_rfl)).symm.trans h1_) (by decide), Q_HO126, fun _ h1_ => absurd ((hon 21 (by kernel_rfl)).symm.trans h1_) (by decide), Q_HO132, fun h0_ => absurd ((hoff 23 (by kernel_rfl)).symm.trans h0_) (by decide), fun _ => rfl, P1, P2, P3, P4, P5, P6⟩
       refine steps_cons ?_ ?_
       ·rintro b a w' ⟨v104, v107, v110, v113, v116, v119, v122, v125, v128, v131, m22_, ha, Q_BK101, Q_BK102, Q_HB, Q_HO105, Q_HO108, Q_HO111, Q_HO114, Q_HO117, Q_HO120, Q_HO123, Q_HO126, Q_HO129, Q_HO132, Q_BK102_e23, Q_X22_, P1, P2, P3, P4, P5, P6⟩ hb_ hon hoff
        refine ⟨_, rfl, fun K hK => ?_⟩
        have e2 : a.tmps[2]? = some (.pointer (some ⟨gb102, 0, none⟩)) := by rw [ha]; exact (putSel_off rfl).trans rfl
        have e25 : a.tmps[25]? = some (m22_) := by rw [ha]; exact putSel_on (e := (22, 25, m22_)) 16 rfl rfl (hon 22 (by kernel_rfl)) rfl
        rw [Q_X22_ (hon 22 (by kernel_rfl))] at e25
        replace ha := qHs ha
        have BK101 := qHs Q_BK101
        have BK102 := qHs (Q_BK102 hb_)
        have HB := qHs Q_HB
        have HO108 := qHs (Q_HO108 (hon 5 (by kernel_rfl)))
        have HO114 := qHs (Q_HO114 (hon 9 (by kernel_rfl)))
        have HO120 := qHs (Q_HO120 (hon 13 (by kernel_rfl)))
        have HO126 := qHs (Q_HO126 (hon 17 (by kernel_rfl)))
        have HO132 := qHs (Q_HO132 (hon 21 (by kernel_rfl)))
        obtain ⟨Ao31, co31, eo31⟩ := Kd.R_slice HO132.out
        (first | subst eo31 | (injection eo31 with f1_ f2_ f3_; have f4_ := f1_.symm; have f5_ := f3_.symm; clear f1_ f2_ f3_; subst f4_; subst f5_))
        obtain ⟨Ao32, co32, eo32⟩ := Kd.R_slice HO126.out
        (first | subst eo32 | (injection eo32 with f1_ f2_ f3_; have f4_ := f1_.symm; have f5_ := f3_.symm; clear f1_ f2_ f3_; subst f4_; subst f5_))
        obtain ⟨Ao33, co33, eo33⟩ := Kd.R_slice HO120.out
        (first | subst eo33 | (injection eo33 with f1_ f2_ f3_; have f4_ := f1_.symm; have f5_ := f3_.symm; clear f1_ f2_ f3_; subst f4_; subst f5_))
        obtain ⟨Ao34, co34, eo34⟩ := Kd.R_slice HO114.out
        (first | subst eo34 | (injection eo34 with f1_ f2_ f3_; have f4_ := f1_.symm; have f5_ := f3_.symm; clear f1_ f2_ f3_; subst f4_; subst f5_))
        obtain ⟨Ao35, co35, eo35⟩ := Kd.R_slice HO108.out
        (first | subst eo35 | (injection eo35 with f1_ f2_ f3_; have f4_ := f1_.symm; have f5_ := f3_.symm; clear f1_ f2_ f3_; subst f4_; subst f5_))
        have hs36 : w'.cell? ⟨gb102, 0, none⟩ = some (.string (⟨#[]⟩ : ByteArray)) := (blk_cell BK102.out 0).trans rfl
        have hfs36 := blk_frozen BK102.out 0
        have hns36_0 := NB101_102.out
        have hms36_0 := NB102_101.out
        have hs37 : w'.cell? ⟨gb102, 1, none⟩ = some (.slice none 0 0) := (blk_cell BK102.out 1).trans rfl
        have hfs37 := blk_frozen BK102.out 1
        have hns37_0 := NB101_102.out
        have hms37_0 := NB102_101.out
        have hs38 : w'.cell? ⟨gb102, 2, none⟩ = some (.slice none 0 0) := (blk_cell BK102.out 2).trans rfl
        have hfs38 := blk_frozen BK102.out 2
        have hns38_0 := NB101_102.out
        have hms38_0 := NB102_101.out
        have hs39 : w'.cell? ⟨gb102, 3, none⟩ = some (.slice none 0 0) := (blk_cell BK102.out 3).trans rfl
        have hfs39 := blk_frozen BK102.out 3
        have hns39_0 := NB101_102.out
        have hms39_0 := NB102_101.out
        have hs40 : w'.cell? ⟨gb102, 4, none⟩ = some (.slice none 0 0) := (blk_cell BK102.out 4).trans rfl
        have hfs40 := blk_frozen BK102.out 4
        have hns40_0 := NB101_102.out
        have hms40_0 := NB102_101.out
        have hs41 : w'.cell? ⟨gb102, 5, none⟩ = some (.slice none 0 0) := (blk_cell BK102.out 5).trans rfl
        have hfs41 := blk_frozen BK102.out 5
        have hns41_0 := NB101_102.out
        have hms41_0 := NB102_101.out
        refine skip_ (w1 := ?_) (by rfl) rfl ?_ ?_
        rotate_left
        ·go_simp
         rfl
        refine hK.out _ _ ⟨v104, .slice Ao35 y106.length co35, v110, .slice Ao34 y112.length co34, v116, .slice Ao33 y118.length co33, v122, .slice Ao32 y124.length co32, v128, .slice Ao31 y130.length co31, m22_, (by rw [ha.out]; exact putSel_none (v := undef) rfl), (by (with_reducible repeat (first | refine qHd ?_ _ | refine qHe ?_ | refine qHf ?_ _)); refine blk_far ?_ NB101_102.out _; (with_reducible repeat (first | refine qHd ?_ _ | refine qHe ?_ | refine qHf ?_ _)); refine blk_far ?_ NB101_102.out _; (with_reducible repeat (first | refine qHd ?_ _ | refine qHe ?_ | refine qHf ?_ _)); refine blk_far ?_ NB101_102.out _; (with_reducible repeat (first | refine qHd ?_ _ | refine qHe ?_ | refine qHf ?_ _)); refine blk_far ?_ NB101_102.out _; (with_reducible repeat (first | refine qHd ?_ _ | refine qHe ?_ | refine qHf ?_ _)); refine blk_far ?_ NB101_102.out _; (with_reducible repeat (first | refine qHd ?_ _ | refine qHe ?_ | refine qHf ?_ _)); refine blk_far ?_ NB101_102.out _; (with_reducible repeat (first | refine qHd ?_ _ | refine qHe ?_ | refine qHf ?_ _)); exact BK101.out), fun h0_ => absurd ((up_self b 23).symm.trans h0_) (by decide), (by repeat (first | (with_reducible first | exact HB.out | apply qHg | apply qHh | apply qHi | refine qHm ?_ GE101.out | refine qHm ?_ GE102.out) | exact HB.out)), fun _ h1_ => absurd ((hon 5 (by kernel_rfl)).symm.trans h1_) (by decide), fun _ => (by (with_reducible repeat (first | apply qHa | apply qHb | apply qHc)); exact Kd.R_mono (Kd.R_far (p := ⟨gb102, 5, none⟩) (Kd.R_far (p := ⟨gb102, 4, none⟩) (Kd.R_far (p := ⟨gb102, 3, none⟩) (Kd.R_far (p := ⟨gb102, 2, none⟩) (Kd.R_far (p := ⟨gb102, 1, none⟩) (Kd.R_far (p := ⟨gb102, 0, none⟩) (Kd.R_types HO108.out BK102.out (by decide)) (fun _ hk => hk.2) (.string a0_0)) (fun _ hk => hk.2) (.slice Ao35 y106.length co35)) (fun _ hk => hk.2) (.slice Ao34 y112.length co34)) (fun _ hk => hk.2) (.slice Ao33 y118.length co33)) (fun _ hk => hk.2) (.slice Ao32 y124.length co32)) (fun _ hk => hk.2) (.slice Ao31 y130.length co31)) (fun _ hk => hk.1)), fun _ h1_ => absurd ((hon 9 (by kernel_rfl)).symm.trans h1_) (by decide), fun _ => (by (with_reducible repeat (first | apply qHa | apply qHb | apply qHc)); exact Kd.R_mono (Kd.R_far (p := ⟨gb102, 5, none⟩) (Kd.R_far (p := ⟨gb102, 4, none⟩) (Kd.R_far (p := ⟨gb102, 3, none⟩) (Kd.R_far (p := ⟨gb102, 2, none⟩) (Kd.R_far (p := ⟨gb102, 1, none⟩) (Kd.R_far (p := ⟨gb102, 0, none⟩) (Kd.R_types HO114.out BK102.out (by decide)) (fun _ hk => hk.2) (.string a0_0)) (fun _ hk => hk.2) (.slice Ao35 y106.length co35)) (fun _ hk => hk.2) (.slice Ao34 y112.length co34)) (fun _ hk => hk.2) (.slice Ao33 y118.length co33)) (fun _ hk => hk.2) (.slice Ao32 y124.length co32)) (fun _ hk => hk.2) (.slice Ao31 y130.length co31)) (fun _ hk => hk.1)), fun _ h1_ => absurd ((hon 13 (by kernel_rfl)).symm.trans h1_) (by decide), fun _ => (by (with_reducible repeat (first | apply qHa | apply qHb | apply qHc)); exact Kd.R_mono (Kd.R_far (p := ⟨gb102, 5, none⟩) (Kd.R_far (p := ⟨gb102, 4, none⟩) (Kd.R_far (p := ⟨gb102, 3, none⟩) (Kd.R_far (p := ⟨gb102, 2, none⟩) (Kd.R_far (p := ⟨gb102, 1, none⟩) (Kd.R_far (p := ⟨gb102, 0, none⟩) (Kd.R_types HO120.out BK102.out (by decide)) (fun _ hk => hk.2) (.string a0_0)) (fun _ hk => hk.2) (.slice Ao35 y106.length co35)) (fun _ hk => hk.2) (.slice Ao34 y112.length co34)) (fun _ hk => hk.2) (.slice Ao33 y118.length co33)) (fun _ hk => hk.2) (.slice Ao32 y124.length co32)) (fun _ hk => hk.2) (.slice Ao31 y130.length co31)) (fun _ hk => hk.1)), fun _ h1_ => absurd ((hon 17 (by kernel_rfl)).symm.trans h1_) (by decide), fun _ => (by (with_reducible repeat (first | apply qHa | apply qHb | apply qHc)); exact Kd.R_mono (Kd.R_far (p := ⟨gb102, 5, none⟩) (Kd.R_far (p := ⟨gb102, 4, none⟩) (Kd.R_far (p := ⟨gb102, 3, none⟩) (Kd.R_far (p := ⟨gb102, 2, none⟩) (Kd.R_far (p := ⟨gb102, 1, none⟩) (Kd.R_far (p := ⟨gb102, 0, none⟩) (Kd.R_types HO126.out BK102.out (by decide)) (fun _ hk => hk.2) (.string a0_0)) (fun _ hk => hk.2) (.slice Ao35 y106.length co35)) (fun _ hk => hk.2) (.slice Ao34 y112.length co34)) (fun _ hk => hk.2) (.slice Ao33 y118.length co33)) (fun _ hk => hk.2) (.slice Ao32 y124.length co32)) (fun _ hk => hk.2) (.slice Ao31 y130.length co31)) (fun _ hk => hk.1)), fun _ h1_ => absurd ((hon 21 (by kernel_rfl)).symm.trans h1_) (by decide), fun _ => (by (with_reducible repeat (first | apply qHa | apply qHb | apply qHc)); exact Kd.R_mono (Kd.R_far (p := ⟨gb102, 5, none⟩) (Kd.R_far (p := ⟨gb102, 4, none⟩) (Kd.R_far (p := ⟨gb102, 3, none⟩) (Kd.R_far (p := ⟨gb102, 2, none⟩) (Kd.R_far (p := ⟨gb102, 1, none⟩) (Kd.R_far (p := ⟨gb102, 0, none⟩) (Kd.R_types HO132.out BK102.out (by decide)) (fun _ hk => hk.2) (.string a0_0)) (fun _ hk => hk.2) (.slice Ao35 y106.length co35)) (fun _ hk => hk.2) (.slice Ao34 y112.length co34)) (fun _ hk => hk.2) (.slice Ao33 y118.length co33)) (fun _ hk => hk.2) (.slice Ao32 y124.length co32)) (fun _ hk => hk.2) (.slice Ao31 y130.length co31)) (fun _ hk => trivial)), fun _ => (by (with_reducible repeat (first | refine qHd ?_ _ | refine qHe ?_ | refine qHf ?_ _)); refine blk_put (cs := #[.string a0_0, .slice Ao35 y106.length co35, .slice Ao34 y112.length co34, .slice Ao33 y118.length co33, .slice Ao32 y124.length co32, .slice none 0 0]) ?_ 5 _ rfl; (with_reducible repeat (first | refine qHd ?_ _ | refine qHe ?_ | refine qHf ?_ _)); refine blk_put (cs := #[.string a0_0, .slice Ao35 y106.length co35, .slice Ao34 y112.length co34, .slice Ao33 y118.length co33, .slice none 0 0, .slice none 0 0]) ?_ 4 _ rfl; (with_reducible repeat (first | refine qHd ?_ _ | refine qHe ?_ | refine qHf ?_ _)); refine blk_put (cs := #[.string a0_0, .slice Ao35 y106.length co35, .slice Ao34 y112.length co34, .slice none 0 0, .slice none 0 0, .slice none 0 0]) ?_ 3 _ rfl; (with_reducible repeat (first | refine qHd ?_ _ | refine qHe ?_ | refine qHf ?_ _)); refine blk_put (cs := #[.string a0_0, .slice Ao35 y106.length co35, .slice none 0 0, .slice none 0 0, .slice none 0 0, .slice none 0 0]) ?_ 2 _ rfl; (with_reducible repeat (first | refine qHd ?_ _ | refine qHe ?_ | refine qHf ?_ _)); refine blk_put (cs := #[.string a0_0, .slice none 0 0, .slice none 0 0, .slice none 0 0, .slice none 0 0, .slice none 0 0]) ?_ 1 _ rfl; (with_reducible repeat (first | refine qHd ?_ _ | refine qHe ?_ | refine qHf ?_ _)); refine blk_put (cs := #[.string (⟨#[]⟩ : ByteArray), .slice none 0 0, .slice none 0 0, .slice none 0 0, .slice none 0 0, .slice none 0 0]) ?_ 0 _ rfl; (with_reducible repeat (first | refine qHd ?_ _ | refine qHe ?_ | refine qHf ?_ _)); exact BK102.out), Q_X22_, P1, P2, P3, P4, P5, P6⟩
       exact steps_nil
      rintro b a w36 hall ⟨v104, v107, v110, v113, v116, v119, v122, v125, v128, v131, m22_, ha, Q_BK101, Q_BK102, Q_HB, Q_HO105, Q_HO108, Q_HO111, Q_HO114, Q_HO117, Q_HO120, Q_HO123, Q_HO126, Q_HO129, Q_HO132, Q_BK102_e23, Q_X22_, P1, P2, P3, P4, P5, P6⟩
      clear BK101 BK102 HB
      have hb1_ := hall 1 (by kernel_rfl)
      have hb2_ := hall 2 (by kernel_rfl)
      have hb4_ := hall 4 (by kernel_rfl)
      have hb5_ := hall 5 (by kernel_rfl)
      have hb6_ := hall 6 (by kernel_rfl)
      have hb8_ := hall 8 (by kernel_rfl)
      have hb9_ := hall 9 (by kernel_rfl)
      have hb10_ := hall 10 (by kernel_rfl)
      have hb12_ := hall 12 (by kernel_rfl)
      have hb13_ := hall 13 (by kernel_rfl)
      have hb14_ := hall 14 (by kernel_rfl)
      have hb16_ := hall 16 (by kernel_rfl)
      have hb17_ := hall 17 (by kernel_rfl)
      have hb18_ := hall 18 (by kernel_rfl)
      have hb20_ := hall 20 (by kernel_rfl)
      have hb21_ := hall 21 (by kernel_rfl)
      have hb22_ := hall 22 (by kernel_rfl)
      have hb23_ := hall 23 (by kernel_rfl)
      subst ha
      obtain rfl := Q_X22_ hb22_
      have AP3 := P3 hb9_
      have AP6 := P6 hb17_
      clear P1 P2 P3 P4 P5 P6
      simp only [putSel, hb1_, hb2_, hb4_, hb5_, hb6_, hb8_, hb9_, hb10_, hb12_, hb13_, hb14_, hb16_, hb17_, hb18_, hb20_, hb21_, hb22_, hb23_, if_true, Act.put, List.setIfInBounds_toArray, List.set_cons_zero, List.set_cons_succ]
      have BK101 := qHs Q_BK101
      clear Q_BK101
      clear Q_BK102
      have HB := qHs Q_HB
      clear Q_HB
      clear Q_HO105
      have HO108 := qHs (Q_HO108 hb5_)
      clear Q_HO108
      clear Q_HO111
      have HO114 := qHs (Q_HO114 hb9_)
      clear Q_HO114
      clear Q_HO117
      have HO120 := qHs (Q_HO120 hb13_)
      clear Q_HO120
      clear Q_HO123
      have HO126 := qHs (Q_HO126 hb17_)
      clear Q_HO126
      clear Q_HO129
      have HO132 := qHs (Q_HO132 hb21_)
      clear Q_HO132
      have BK102 := qHs (Q_BK102_e23 hb23_)
      clear Q_BK102_e23
      clear hall hb1_ hb2_ hb4_ hb5_ hb6_ hb8_ hb9_ hb10_ hb12_ hb13_ hb14_ hb16_ hb17_ hb18_ hb20_ hb21_ hb22_ hb23_
      obtain ⟨Ao37, co37, eo37⟩ := Kd.R_slice HO132.out
      (first | subst eo37 | (injection eo37 with f1_ f2_ f3_; have f4_ := f1_.symm; have f5_ := f3_.symm; clear f1_ f2_ f3_; subst f4_; subst f5_))
      obtain ⟨Ao38, co38, eo38⟩ := Kd.R_slice HO126.out
      (first | subst eo38 | (injection eo38 with f1_ f2_ f3_; have f4_ := f1_.symm; have f5_ := f3_.symm; clear f1_ f2_ f3_; subst f4_; subst f5_))
      obtain ⟨Ao39, co39, eo39⟩ := Kd.R_slice HO120.out
      (first | subst eo39 | (injection eo39 with f1_ f2_ f3_; have f4_ := f1_.symm; have f5_ := f3_.symm; clear f1_ f2_ f3_; subst f4_; subst f5_))
      obtain ⟨Ao40, co40, eo40⟩ := Kd.R_slice HO114.out
      (first | subst eo40 | (injection eo40 with f1_ f2_ f3_; have f4_ := f1_.symm; have f5_ := f3_.symm; clear f1_ f2_ f3_; subst f4_; subst f5_))
      obtain ⟨Ao41, co41, eo41⟩ := Kd.R_slice HO108.out
      (first | subst eo41 | (injection eo41 with f1_ f2_ f3_; have f4_ := f1_.symm; have f5_ := f3_.symm; clear f1_ f2_ f3_; subst f4_; subst f5_))
      try go_wp2
      refine bodyPost_ret (results_cell_row rfl _ _ gb102 26 #[.string a0_0, .slice Ao41 y106.length co41, .slice Ao40 y112.length co40, .slice Ao39 y118.length co39, .slice Ao38 y124.length co38, .slice Ao37 y130.length co37] (0, 0) _ rfl (by (with_reducible repeat (first | refine qHd ?_ _ | refine qHe ?_ | refine qHf ?_ _)); exact BK102.out) Tryd.underlying26 rfl (by kernel_rfl)) rfl ?_
      exact ⟨_, _, _, _, _, by first | rfl | (simp [errW_none, errW_some] <;> rfl) | (simp [*, errW_none, errW_some] <;> rfl), by (with_reducible repeat (first | apply qHa | apply qHb | apply qHc)); exact Kd.R_flat (fun h => h) HO108.out (fun k hk _ => atom_of AP3 hk), by (with_reducible repeat (first | apply qHa | apply qHb | apply qHc)); exact Kd.R_flat (fun h => h) HO114.out (fun k hk _ => atom_of' AP3 hk), by (with_reducible repeat (first | apply qHa | apply qHb | apply qHc)); exact Kd.R_flat (fun h => h) HO120.out (fun k hk _ => atom_of AP6 hk), by (with_reducible repeat (first | apply qHa | apply qHb | apply qHc)); exact Kd.R_flat (fun h => h) HO126.out (fun k hk _ => atom_of' AP6 hk), by (with_reducible repeat (first | apply qHa | apply qHb | apply qHc)); exact HO132.out, by repeat (first | (with_reducible first | exact HB.out | apply qHg | apply qHh | apply qHi | refine qHm ?_ GE101.out | refine qHm ?_ GE102.out) | exact HB.out)⟩
     ·rw [if_neg c6] at H
      exact absurd H (by simp)
    ·rw [if_neg c5] at H
     exact absurd H (by simp)
   ·rw [if_neg c4] at H
    exact absurd H (by simp)
  ·rw [if_neg c3] at H
   exact absurd H (by simp)
 ·rw [if_neg c2] at H
  exact absurd H (by simp)

end Go.Proofs.YtiphindialkmnaaDoor.X
end
section
namespace Go.Proofs.YtiphindialkmnaaDoor.X
open Go.RowKit Go.Proofs.YtiphindialkmnaaDoorW.PrintWords Go.Proofs.YtiphindialkmnaaDoorW.PrintLast Go.Proofs.YtiphindialkmnaaDoorW.PrintMore
attribute [local go_sem] max2_int min2_int max_two min_two max_three min_three max_four min_four
set_option linter.unusedVariables false
set_option linter.unusedSimpArgs false

/-! ### budwoodref10_SameTexts: function 49 -/
def budwoodref10_SameTexts.l0 : Nat → List ByteArray → List ByteArray → Int → Option (Bool)
  | 0, _, _, _ => none
  | k + 1, x0, x1, x5 => if x5 < (x0.length : Int) then (if 0 ≤ x5 then (if x5 < (x1.length : Int) then (if (rdOf ByteArray.empty x0 x5).toList = (rdOf ByteArray.empty x1 x5).toList then (budwoodref10_SameTexts.l0 k x0 x1 (wrap64 (x5 + 1))) else (some false)) else (none)) else (none)) else (some true)
def budwoodref10_SameTexts.f (k : Nat) (l0 : List ByteArray) (l1 : List ByteArray) : Option (Bool) := if (l0.length : Int) = (l1.length : Int) then (budwoodref10_SameTexts.l0 k l0 l1 0) else (some false)
theorem budwoodref10_SameTexts.mono_l : ∀ k, (∀ y0 y1 y2, LeO (budwoodref10_SameTexts.l0 k y0 y1 y2) (budwoodref10_SameTexts.l0 (k + 1) y0 y1 y2))
  | 0 => fun _ _ _ r h => by simp [budwoodref10_SameTexts.l0] at h
  | k + 1 => by
    have ih0 := budwoodref10_SameTexts.mono_l k
    · intro y0 y1 y2
      unfold budwoodref10_SameTexts.l0
      repeat' first
      | (with_reducible exact ih0 _ _ _)
      | (with_reducible exact LeO.refl _)
      | (with_reducible exact LeO.none _)
      | (with_reducible refine LeO.ite ?_ ?_)
      | (with_reducible refine LeO.bind ?_ (fun _ => ?_))
      | exact ih0 _ _ _
      | exact LeO.none _
      | refine LeO.ite ?_ ?_
      | refine LeO.bind ?_ (fun _ => ?_)
theorem budwoodref10_SameTexts.mono : ∀ a0 a1 k, LeO (budwoodref10_SameTexts.f k a0 a1) (budwoodref10_SameTexts.f (k + 1) a0 a1) := by
  intro a0 a1 k
  have ih0 := budwoodref10_SameTexts.mono_l k
  unfold budwoodref10_SameTexts.f
  repeat' first
      | (with_reducible exact ih0 _ _ _)
      | (with_reducible exact LeO.refl _)
      | (with_reducible exact LeO.none _)
      | (with_reducible refine LeO.ite ?_ ?_)
      | (with_reducible refine LeO.bind ?_ (fun _ => ?_))
      | exact ih0 _ _ _
      | exact LeO.none _
      | refine LeO.ite ?_ ?_
      | refine LeO.bind ?_ (fun _ => ?_)
set_option maxHeartbeats 8000000 in
set_option maxRecDepth 100000 in
theorem budwoodref10_SameTexts.calls (k : Nat) (A0 : Option Addr) (c0 : Nat) (l0 : List ByteArray) (A1 : Option Addr) (c1 : Nat) (l1 : List ByteArray) (r : Bool) (w : World) (hr0 : Kd.C Kd.string w A0 l0.length l0) (hc0 : l0.length ≤ c0) (hr1 : Kd.C Kd.string w A1 l1.length l1) (hc1 : l1.length ≤ c1) (h : budwoodref10_SameTexts.f k l0 l1 = some r) :
    Calls Tryd.prog 49 #[.slice A0 l0.length c0, .slice A1 l1.length c1] w fun e w' => e = .returned (.bool r) ∧ Drawn0 w w' := by
  have HR0 := Aside0.mk hr0
  have HC0 := Aside0.mk hc0
  clear hr0 hc0
  have HR1 := Aside0.mk hr1
  have HC1 := Aside0.mk hc1
  clear hr1 hc1
  have H : (if (l0.length : Int) = (l1.length : Int) then (budwoodref10_SameTexts.l0 k l0 l1 0) else (some false)) = some r := h
  clear h
  by_cases c3 : (l0.length : Int) = (l1.length : Int)
  · rw [if_pos c3] at H
    have c3b0 : ((l0.length : Int) == (l1.length : Int)) = true := beq_iff_eq.mpr c3
    have c3b1 : ((l0.length : Int) != (l1.length : Int)) = false := bne_eq_false_iff_eq.mpr c3
    have c3b2 : (l0.length == l1.length) = true := by first | simpa using c3 | (simp at c3 ⊢; omega)
    clear c3
    have H' := Aside0.mk H
    clear H
    go_enter Tryd.func49, Tryd.ntmps49
    go_wp2
    repeat (go_quiet (fail); try go_wp2)
    go_loopg [5] k (fun kq v5 w' => ∃ (x5_1 : Int), v5 = .int .i64 x5_1 ∧ Aside0 (budwoodref10_SameTexts.l0 kq l0 l1 x5_1 = some r) ∧ Aside0 (kq ≤ k) ∧ Drawn0 w w')
    case atStart => exact ⟨(0), (by first | rfl | (simp; done) | (simp [*]; done)), H', ⟨Nat.le_refl _⟩, by repeat (first | exact Drawn0.refl _ | apply Drawn0.step)⟩
    case round =>
      clear H'
      try clear c1
      try clear p2
      try clear c3
      try clear c3b0
      try clear c3b1
      try clear c3b2
      obtain ⟨x5_1, rfl, HA, HK1, ⟨m1, rfl⟩⟩ := hrel
      cases gk with
      | zero => exact absurd HA.out (by simp [budwoodref10_SameTexts.l0])
      | succ k1 =>
        have H := HA.out
        clear HA
        simp only [budwoodref10_SameTexts.l0] at H
        by_cases c4 : x5_1 < (l0.length : Int)
        · rw [if_pos c4] at H
          have c4b0 : decide (x5_1 < (l0.length : Int)) = true := decide_eq_true c4
          clear c4
          by_cases c5 : 0 ≤ x5_1
          · rw [if_pos c5] at H
            have c5b0 : decide (0 ≤ x5_1) = true := decide_eq_true c5
            clear c5
            by_cases c6 : x5_1 < (l1.length : Int)
            · rw [if_pos c6] at H
              have c6b0 : decide (x5_1 < (l1.length : Int)) = true := decide_eq_true c6
              clear c6
              by_cases c7 : (rdOf ByteArray.empty l0 x5_1).toList = (rdOf ByteArray.empty l1 x5_1).toList
              · rw [if_pos c7] at H
                have c7b0 : ((rdOf ByteArray.empty l0 x5_1).toList == (rdOf ByteArray.empty l1 x5_1).toList) = true := beq_iff_eq.mpr c7
                have c7b1 : ((rdOf ByteArray.empty l0 x5_1).toList != (rdOf ByteArray.empty l1 x5_1).toList) = false := bne_eq_false_iff_eq.mpr c7
                clear c7
                have H' := Aside0.mk H
                clear H
                have p101 : 0 ≤ (x5_1 : Int) := of_decide_eq_true (by first | (with_reducible assumption) | assumption)
                have q101 : x5_1 < (l0.length : Int) := of_decide_eq_true (by first | (with_reducible assumption) | assumption)
                obtain ⟨ad101, e101, hx101_0⟩ := Kd.at_string HR0.out x5_1 p101 q101
                cases e101
                replace p101 := eq_true p101
                replace q101 := eq_true q101
                have p102 : 0 ≤ (x5_1 : Int) := of_decide_eq_true (by first | (with_reducible assumption) | assumption)
                have q102 : x5_1 < (l1.length : Int) := of_decide_eq_true (by first | (with_reducible assumption) | assumption)
                obtain ⟨ad102, e102, hx102_0⟩ := Kd.at_string HR1.out x5_1 p102 q102
                cases e102
                replace p102 := eq_true p102
                replace q102 := eq_true q102
                go_wp2
                repeat (go_quiet (fail); try go_wp2)
                go_roundg k1
                case measure => have := HK1.out; omega
                case rel => exact ⟨(wrap64 (x5_1 + 1)), (by first | rfl | (simp; done) | (simp [*]; done)), H', ⟨by have := HK1.out; omega⟩, by repeat (first | exact Drawn0.refl _ | apply Drawn0.step)⟩
              · rw [if_neg c7] at H
                have c7b0 : ((rdOf ByteArray.empty l0 x5_1).toList == (rdOf ByteArray.empty l1 x5_1).toList) = false := beq_eq_false_iff_ne.mpr c7
                have c7b1 : ((rdOf ByteArray.empty l0 x5_1).toList != (rdOf ByteArray.empty l1 x5_1).toList) = true := bne_iff_ne.mpr c7
                obtain rfl := Option.some.inj H
                have p101 : 0 ≤ (x5_1 : Int) := of_decide_eq_true (by first | (with_reducible assumption) | assumption)
                have q101 : x5_1 < (l0.length : Int) := of_decide_eq_true (by first | (with_reducible assumption) | assumption)
                obtain ⟨ad101, e101, hx101_0⟩ := Kd.at_string HR0.out x5_1 p101 q101
                cases e101
                replace p101 := eq_true p101
                replace q101 := eq_true q101
                have p102 : 0 ≤ (x5_1 : Int) := of_decide_eq_true (by first | (with_reducible assumption) | assumption)
                have q102 : x5_1 < (l1.length : Int) := of_decide_eq_true (by first | (with_reducible assumption) | assumption)
                obtain ⟨ad102, e102, hx102_0⟩ := Kd.at_string HR1.out x5_1 p102 q102
                cases e102
                replace p102 := eq_true p102
                replace q102 := eq_true q102
                go_wp2
                repeat (go_quiet (fail); try go_wp2)
                go_ret
                exact ⟨by first | rfl | (simp; done) | (simp [*]; done), by repeat (first | exact Drawn0.refl _ | apply Drawn0.step)⟩
            · rw [if_neg c6] at H
              exact absurd H (by simp)
          · rw [if_neg c5] at H
            exact absurd H (by simp)
        · rw [if_neg c4] at H
          have c4b0 : decide (x5_1 < (l0.length : Int)) = false := decide_eq_false c4
          clear c4
          obtain rfl := Option.some.inj H
          go_wp2
          repeat (go_quiet (fail); try go_wp2)
          go_ret
          exact ⟨by first | rfl | (simp; done) | (simp [*]; done), by repeat (first | exact Drawn0.refl _ | apply Drawn0.step)⟩
  · rw [if_neg c3] at H
    have c3b0 : ((l0.length : Int) == (l1.length : Int)) = false := beq_eq_false_iff_ne.mpr c3
    have c3b1 : ((l0.length : Int) != (l1.length : Int)) = true := bne_iff_ne.mpr c3
    have c3b2 : (l0.length == l1.length) = false := by first | simpa using c3 | (simp at c3 ⊢; omega)
    obtain rfl := Option.some.inj H
    go_enter Tryd.func49, Tryd.ntmps49
    go_wp2
    repeat (go_quiet (fail); try go_wp2)
    go_ret
    exact ⟨by first | rfl | (simp; done) | (simp [*]; done), by repeat (first | exact Drawn0.refl _ | apply Drawn0.step)⟩

end Go.Proofs.YtiphindialkmnaaDoor.X
end
section
namespace Go.Proofs.YtiphindialkmnaaDoor.X
open Go.RowKit Go.Proofs.YtiphindialkmnaaDoorW.PrintWords Go.Proofs.YtiphindialkmnaaDoorW.PrintLast Go.Proofs.YtiphindialkmnaaDoorW.PrintMore
attribute [local go_sem] max2_int min2_int max_two min_two max_three min_three max_four min_four
set_option linter.unusedVariables false
set_option linter.unusedSimpArgs false

theorem eqA43 (d : Nat) (w : World) (x0 y0 : Int) (x1 y1 : Int) (x2 y2 : Int) :
    (Op.equalIn (d + 2) 43 (.agg #[.int .u8 x0, .int .u16 x1, .int .u16 x2]) (.agg #[.int .u8 y0, .int .u16 y1, .int .u16 y2])).run Tryd.prog w = .ok (x0 == y0 && (x1 == y1 && (x2 == y2))) w := by
  refine eqA_of Tryd.underlying43 (by kernel_rfl) ?_
  refine eqf_cons (by rfl) (by go_simp; rfl) (by go_simp; rfl) (by go_simp) ?_
  refine eqf_cons (by rfl) (by go_simp; rfl) (by go_simp; rfl) (by go_simp) ?_
  exact eqf_last (by rfl) (by go_simp; rfl) (by go_simp; rfl) (by go_simp)
end Go.Proofs.YtiphindialkmnaaDoor.X
end
section
namespace Go.Proofs.YtiphindialkmnaaDoor.X
open Go.RowKit Go.Proofs.YtiphindialkmnaaDoorW.PrintWords Go.Proofs.YtiphindialkmnaaDoorW.PrintLast Go.Proofs.YtiphindialkmnaaDoorW.PrintMore
attribute [local go_sem] max2_int min2_int max_two min_two max_three min_three max_four min_four
set_option linter.unusedVariables false
set_option linter.unusedSimpArgs false

/-! ### budwoodref10_SameWords: function 28 -/
def budwoodref10_SameWords.l0 : Nat → List Int → List Int → Int → Option (Bool)
  | 0, _, _, _ => none
  | k + 1, x0, x1, x5 => if x5 < (x0.length : Int) then (if 0 ≤ x5 then (if x5 < (x1.length : Int) then (if (rd x0 x5) = (rd x1 x5) then (budwoodref10_SameWords.l0 k x0 x1 (wrap64 (x5 + 1))) else (some false)) else (none)) else (none)) else (some true)
def budwoodref10_SameWords.f (k : Nat) (l0 : List Int) (l1 : List Int) : Option (Bool) := if (l0.length : Int) = (l1.length : Int) then (budwoodref10_SameWords.l0 k l0 l1 0) else (some false)
theorem budwoodref10_SameWords.mono_l : ∀ k, (∀ y0 y1 y2, LeO (budwoodref10_SameWords.l0 k y0 y1 y2) (budwoodref10_SameWords.l0 (k + 1) y0 y1 y2))
  | 0 => fun _ _ _ r h => by simp [budwoodref10_SameWords.l0] at h
  | k + 1 => by
    have ih0 := budwoodref10_SameWords.mono_l k
    · intro y0 y1 y2
      unfold budwoodref10_SameWords.l0
      repeat' first
      | (with_reducible exact ih0 _ _ _)
      | (with_reducible exact LeO.refl _)
      | (with_reducible exact LeO.none _)
      | (with_reducible refine LeO.ite ?_ ?_)
      | (with_reducible refine LeO.bind ?_ (fun _ => ?_))
      | exact ih0 _ _ _
      | exact LeO.none _
      | refine LeO.ite ?_ ?_
      | refine LeO.bind ?_ (fun _ => ?_)
theorem budwoodref10_SameWords.mono : ∀ a0 a1 k, LeO (budwoodref10_SameWords.f k a0 a1) (budwoodref10_SameWords.f (k + 1) a0 a1) := by
  intro a0 a1 k
  have ih0 := budwoodref10_SameWords.mono_l k
  unfold budwoodref10_SameWords.f
  repeat' first
      | (with_reducible exact ih0 _ _ _)
      | (with_reducible exact LeO.refl _)
      | (with_reducible exact LeO.none _)
      | (with_reducible refine LeO.ite ?_ ?_)
      | (with_reducible refine LeO.bind ?_ (fun _ => ?_))
      | exact ih0 _ _ _
      | exact LeO.none _
      | refine LeO.ite ?_ ?_
      | refine LeO.bind ?_ (fun _ => ?_)
set_option maxHeartbeats 8000000 in
set_option maxRecDepth 100000 in
theorem budwoodref10_SameWords.calls (k : Nat) (A0 : Option Addr) (c0 : Nat) (l0 : List Int) (A1 : Option Addr) (c1 : Nat) (l1 : List Int) (r : Bool) (w : World) (hr0 : Kd.C (Kd.int .u32) w A0 l0.length l0) (hc0 : l0.length ≤ c0) (hr1 : Kd.C (Kd.int .u32) w A1 l1.length l1) (hc1 : l1.length ≤ c1) (h : budwoodref10_SameWords.f k l0 l1 = some r) :
    Calls Tryd.prog 28 #[.slice A0 l0.length c0, .slice A1 l1.length c1] w fun e w' => e = .returned (.bool r) ∧ Drawn0 w w' := by
  have HR0 := Aside0.mk hr0
  have HC0 := Aside0.mk hc0
  clear hr0 hc0
  have HR1 := Aside0.mk hr1
  have HC1 := Aside0.mk hc1
  clear hr1 hc1
  have H : (if (l0.length : Int) = (l1.length : Int) then (budwoodref10_SameWords.l0 k l0 l1 0) else (some false)) = some r := h
  clear h
  by_cases c3 : (l0.length : Int) = (l1.length : Int)
  · rw [if_pos c3] at H
    have c3b0 : ((l0.length : Int) == (l1.length : Int)) = true := beq_iff_eq.mpr c3
    have c3b1 : ((l0.length : Int) != (l1.length : Int)) = false := bne_eq_false_iff_eq.mpr c3
    have c3b2 : (l0.length == l1.length) = true := by first | simpa using c3 | (simp at c3 ⊢; omega)
    clear c3
    have H' := Aside0.mk H
    clear H
    go_enter Tryd.func28, Tryd.ntmps28
    go_wp2
    repeat (go_quiet (fail); try go_wp2)
    go_loopg [5] k (fun kq v5 w' => ∃ (x5_1 : Int), v5 = .int .i64 x5_1 ∧ Aside0 (budwoodref10_SameWords.l0 kq l0 l1 x5_1 = some r) ∧ Aside0 (kq ≤ k) ∧ Drawn0 w w')
    case atStart => exact ⟨(0), (by first | rfl | (simp; done) | (simp [*]; done)), H', ⟨Nat.le_refl _⟩, by repeat (first | exact Drawn0.refl _ | apply Drawn0.step)⟩
    case round =>
      clear H'
      try clear c1
      try clear c2
      try clear p2
      try clear c3
      try clear c3b0
      try clear c3b1
      try clear c3b2
      obtain ⟨x5_1, rfl, HA, HK1, ⟨m1, rfl⟩⟩ := hrel
      cases gk with
      | zero => exact absurd HA.out (by simp [budwoodref10_SameWords.l0])
      | succ k1 =>
        have H := HA.out
        clear HA
        simp only [budwoodref10_SameWords.l0] at H
        by_cases c4 : x5_1 < (l0.length : Int)
        · rw [if_pos c4] at H
          have c4b0 : decide (x5_1 < (l0.length : Int)) = true := decide_eq_true c4
          clear c4
          by_cases c5 : 0 ≤ x5_1
          · rw [if_pos c5] at H
            have c5b0 : decide (0 ≤ x5_1) = true := decide_eq_true c5
            clear c5
            by_cases c6 : x5_1 < (l1.length : Int)
            · rw [if_pos c6] at H
              have c6b0 : decide (x5_1 < (l1.length : Int)) = true := decide_eq_true c6
              clear c6
              by_cases c7 : (rd l0 x5_1) = (rd l1 x5_1)
              · rw [if_pos c7] at H
                have c7b0 : ((rd l0 x5_1) == (rd l1 x5_1)) = true := beq_iff_eq.mpr c7
                have c7b1 : ((rd l0 x5_1) != (rd l1 x5_1)) = false := bne_eq_false_iff_eq.mpr c7
                clear c7
                have H' := Aside0.mk H
                clear H
                have p101 : 0 ≤ (x5_1 : Int) := of_decide_eq_true (by first | (with_reducible assumption) | assumption)
                have q101 : x5_1 < (l0.length : Int) := of_decide_eq_true (by first | (with_reducible assumption) | assumption)
                obtain ⟨ad101, e101, hx101_0⟩ := Kd.at_int HR0.out x5_1 p101 q101
                cases e101
                replace p101 := eq_true p101
                replace q101 := eq_true q101
                have p102 : 0 ≤ (x5_1 : Int) := of_decide_eq_true (by first | (with_reducible assumption) | assumption)
                have q102 : x5_1 < (l1.length : Int) := of_decide_eq_true (by first | (with_reducible assumption) | assumption)
                obtain ⟨ad102, e102, hx102_0⟩ := Kd.at_int HR1.out x5_1 p102 q102
                cases e102
                replace p102 := eq_true p102
                replace q102 := eq_true q102
                go_wp2
                repeat (go_quiet (fail); try go_wp2)
                go_roundg k1
                case measure => have := HK1.out; omega
                case rel => exact ⟨(wrap64 (x5_1 + 1)), (by first | rfl | (simp; done) | (simp [*]; done)), H', ⟨by have := HK1.out; omega⟩, by repeat (first | exact Drawn0.refl _ | apply Drawn0.step)⟩
              · rw [if_neg c7] at H
                have c7b0 : ((rd l0 x5_1) == (rd l1 x5_1)) = false := beq_eq_false_iff_ne.mpr c7
                have c7b1 : ((rd l0 x5_1) != (rd l1 x5_1)) = true := bne_iff_ne.mpr c7
                obtain rfl := Option.some.inj H
                have p101 : 0 ≤ (x5_1 : Int) := of_decide_eq_true (by first | (with_reducible assumption) | assumption)
                have q101 : x5_1 < (l0.length : Int) := of_decide_eq_true (by first | (with_reducible assumption) | assumption)
                obtain ⟨ad101, e101, hx101_0⟩ := Kd.at_int HR0.out x5_1 p101 q101
                cases e101
                replace p101 := eq_true p101
                replace q101 := eq_true q101
                have p102 : 0 ≤ (x5_1 : Int) := of_decide_eq_true (by first | (with_reducible assumption) | assumption)
                have q102 : x5_1 < (l1.length : Int) := of_decide_eq_true (by first | (with_reducible assumption) | assumption)
                obtain ⟨ad102, e102, hx102_0⟩ := Kd.at_int HR1.out x5_1 p102 q102
                cases e102
                replace p102 := eq_true p102
                replace q102 := eq_true q102
                go_wp2
                repeat (go_quiet (fail); try go_wp2)
                go_ret
                exact ⟨by first | rfl | (simp; done) | (simp [*]; done), by repeat (first | exact Drawn0.refl _ | apply Drawn0.step)⟩
            · rw [if_neg c6] at H
              exact absurd H (by simp)
          · rw [if_neg c5] at H
            exact absurd H (by simp)
        · rw [if_neg c4] at H
          have c4b0 : decide (x5_1 < (l0.length : Int)) = false := decide_eq_false c4
          clear c4
          obtain rfl := Option.some.inj H
          go_wp2
          repeat (go_quiet (fail); try go_wp2)
          go_ret
          exact ⟨by first | rfl | (simp; done) | (simp [*]; done), by repeat (first | exact Drawn0.refl _ | apply Drawn0.step)⟩
  · rw [if_neg c3] at H
    have c3b0 : ((l0.length : Int) == (l1.length : Int)) = false := beq_eq_false_iff_ne.mpr c3
    have c3b1 : ((l0.length : Int) != (l1.length : Int)) = true := bne_iff_ne.mpr c3
    have c3b2 : (l0.length == l1.length) = false := by first | simpa using c3 | (simp at c3 ⊢; omega)
    obtain rfl := Option.some.inj H
    go_enter Tryd.func28, Tryd.ntmps28
    go_wp2
    repeat (go_quiet (fail); try go_wp2)
    go_ret
    exact ⟨by first | rfl | (simp; done) | (simp [*]; done), by repeat (first | exact Drawn0.refl _ | apply Drawn0.step)⟩

end Go.Proofs.YtiphindialkmnaaDoor.X
end
section
namespace Go.Proofs.YtiphindialkmnaaDoor.X
open Go.RowKit Go.Proofs.YtiphindialkmnaaDoorW.PrintWords Go.Proofs.YtiphindialkmnaaDoorW.PrintLast Go.Proofs.YtiphindialkmnaaDoorW.PrintMore
attribute [local go_sem] max2_int min2_int max_two min_two max_three min_three max_four min_four
set_option linter.unusedVariables false
set_option linter.unusedSimpArgs false

attribute [local go_sem high] eqA43
/-! ### budwoodref10_Same: function 20 -/
mutual
def budwoodref10_Same.j0 : Nat → Bool → ByteArray → List ByteArray → List ByteArray → List Int → List Int → List (S43) → ByteArray → List ByteArray → List ByteArray → List Int → List Int → List (S43) → Option (Bool)
 | 0, _, _, _, _, _, _, _, _, _, _, _, _, _ => none
 | k + 1, x51, x102000, x102001, x102002, x102003, x102004, x102005, x103000, x103001, x103002, x103003, x103004, x103005 => if x51 = true then (some false) else (budwoodref10_Same.l0 k 0 x102000 x102001 x102002 x102003 x102004 x102005 x103000 x103001 x103002 x103003 x103004 x103005)
def budwoodref10_Same.l0 : Nat → Int → ByteArray → List ByteArray → List ByteArray → List Int → List Int → List (S43) → ByteArray → List ByteArray → List ByteArray → List Int → List Int → List (S43) → Option (Bool)
 | 0, _, _, _, _, _, _, _, _, _, _, _, _, _ => none
 | k + 1, x5, x102000, x102001, x102002, x102003, x102004, x102005, x103000, x103001, x103002, x103003, x103004, x103005 => if x5 < (x102005.length : Int) then (if 0 ≤ x5 then (if x5 < (x103005.length : Int) then (if (!(((rd_T43 x102005 x5).f0) == ((rd_T43 x103005 x5).f0)) || (!(((rd_T43 x102005 x5).f1) == ((rd_T43 x103005 x5).f1)) || (!(((rd_T43 x102005 x5).f2) == ((rd_T43 x103005 x5).f2))))) = true then (some false) else (budwoodref10_Same.l0 k (wrap64 (x5 + 1)) x102000 x102001 x102002 x102003 x102004 x102005 x103000 x103001 x103002 x103003 x103004 x103005)) else (none)) else (none)) else (some true)
end
def budwoodref10_Same.f (k : Nat) (a0_0 : ByteArray) (l0_1 : List ByteArray) (l0_2 : List ByteArray) (l0_3 : List Int) (l0_4 : List Int) (l0_5 : List (S43)) (a1_0 : ByteArray) (l1_1 : List ByteArray) (l1_2 : List ByteArray) (l1_3 : List Int) (l1_4 : List Int) (l1_5 : List (S43)) : Option (Bool) := if a0_0.toList = a1_0.toList then ((budwoodref10_SameTexts.f k l0_1 l1_1).bind fun t103 => (if t103 = true then ((budwoodref10_SameTexts.f k l0_2 l1_2).bind fun t104 => (if t104 = true then ((budwoodref10_SameWords.f k l0_3 l1_3).bind fun t105 => (if t105 = true then ((budwoodref10_SameWords.f k l0_4 l1_4).bind fun t106 => (if t106 = true then (budwoodref10_Same.j0 k ((l0_5.length : Int) != (l1_5.length : Int)) a0_0 l0_1 l0_2 l0_3 l0_4 l0_5 a1_0 l1_1 l1_2 l1_3 l1_4 l1_5) else (budwoodref10_Same.j0 k true a0_0 l0_1 l0_2 l0_3 l0_4 l0_5 a1_0 l1_1 l1_2 l1_3 l1_4 l1_5))) else (budwoodref10_Same.j0 k true a0_0 l0_1 l0_2 l0_3 l0_4 l0_5 a1_0 l1_1 l1_2 l1_3 l1_4 l1_5))) else (budwoodref10_Same.j0 k true a0_0 l0_1 l0_2 l0_3 l0_4 l0_5 a1_0 l1_1 l1_2 l1_3 l1_4 l1_5))) else (budwoodref10_Same.j0 k true a0_0 l0_1 l0_2 l0_3 l0_4 l0_5 a1_0 l1_1 l1_2 l1_3 l1_4 l1_5))) else (budwoodref10_Same.j0 k true a0_0 l0_1 l0_2 l0_3 l0_4 l0_5 a1_0 l1_1 l1_2 l1_3 l1_4 l1_5)
theorem budwoodref10_Same.mono_l : ∀ k, (∀ y0 y1 y2 y3 y4 y5 y6 y7 y8 y9 y10 y11 y12, LeO (budwoodref10_Same.j0 k y0 y1 y2 y3 y4 y5 y6 y7 y8 y9 y10 y11 y12) (budwoodref10_Same.j0 (k + 1) y0 y1 y2 y3 y4 y5 y6 y7 y8 y9 y10 y11 y12)) ∧ (∀ y0 y1 y2 y3 y4 y5 y6 y7 y8 y9 y10 y11 y12, LeO (budwoodref10_Same.l0 k y0 y1 y2 y3 y4 y5 y6 y7 y8 y9 y10 y11 y12) (budwoodref10_Same.l0 (k + 1) y0 y1 y2 y3 y4 y5 y6 y7 y8 y9 y10 y11 y12))
 | 0 => ⟨fun _ _ _ _ _ _ _ _ _ _ _ _ _ r h => by simp [budwoodref10_Same.j0] at h, fun _ _ _ _ _ _ _ _ _ _ _ _ _ r h => by simp [budwoodref10_Same.l0] at h⟩
 | k + 1 => by
  obtain ⟨ih0, ih1⟩ := budwoodref10_Same.mono_l k
  refine ⟨?_, ?_⟩
  ·intro y0 y1 y2 y3 y4 y5 y6 y7 y8 y9 y10 y11 y12
   unfold budwoodref10_Same.j0
   repeat' first
   | (with_reducible exact ih0 _ _ _ _ _ _ _ _ _ _ _ _ _)
   | (with_reducible exact ih1 _ _ _ _ _ _ _ _ _ _ _ _ _)
   | (with_reducible exact budwoodref10_SameTexts.mono _ _ _)
   | (with_reducible exact budwoodref10_SameWords.mono _ _ _)
   | (with_reducible exact LeO.refl _)
   | (with_reducible exact LeO.none _)
   | (with_reducible refine LeO.ite ?_ ?_)
   | (with_reducible refine LeO.bind ?_ (fun _ => ?_))
   | exact ih0 _ _ _ _ _ _ _ _ _ _ _ _ _
   | exact ih1 _ _ _ _ _ _ _ _ _ _ _ _ _
   | exact budwoodref10_SameTexts.mono _ _ _
   | exact budwoodref10_SameWords.mono _ _ _
   | exact LeO.none _
   | refine LeO.ite ?_ ?_
   | refine LeO.bind ?_ (fun _ => ?_)
  ·intro y0 y1 y2 y3 y4 y5 y6 y7 y8 y9 y10 y11 y12
   unfold budwoodref10_Same.l0
   repeat' first
   | (with_reducible exact ih0 _ _ _ _ _ _ _ _ _ _ _ _ _)
   | (with_reducible exact ih1 _ _ _ _ _ _ _ _ _ _ _ _ _)
   | (with_reducible exact budwoodref10_SameTexts.mono _ _ _)
   | (with_reducible exact budwoodref10_SameWords.mono _ _ _)
   | (with_reducible exact LeO.refl _)
   | (with_reducible exact LeO.none _)
   | (with_reducible refine LeO.ite ?_ ?_)
   | (with_reducible refine LeO.bind ?_ (fun _ => ?_))
   | exact ih0 _ _ _ _ _ _ _ _ _ _ _ _ _
   | exact ih1 _ _ _ _ _ _ _ _ _ _ _ _ _
   | exact budwoodref10_SameTexts.mono _ _ _
   | exact budwoodref10_SameWords.mono _ _ _
   | exact LeO.none _
   | refine LeO.ite ?_ ?_
   | refine LeO.bind ?_ (fun _ => ?_)
theorem budwoodref10_Same.mono : ∀ a0 a1 a2 a3 a4 a5 a6 a7 a8 a9 a10 a11 k, LeO (budwoodref10_Same.f k a0 a1 a2 a3 a4 a5 a6 a7 a8 a9 a10 a11) (budwoodref10_Same.f (k + 1) a0 a1 a2 a3 a4 a5 a6 a7 a8 a9 a10 a11) := by
 intro a0 a1 a2 a3 a4 a5 a6 a7 a8 a9 a10 a11 k
 obtain ⟨ih0, ih1⟩ := budwoodref10_Same.mono_l k
 unfold budwoodref10_Same.f
 repeat' first
   | (with_reducible exact ih0 _ _ _ _ _ _ _ _ _ _ _ _ _)
   | (with_reducible exact ih1 _ _ _ _ _ _ _ _ _ _ _ _ _)
   | (with_reducible exact budwoodref10_SameTexts.mono _ _ _)
   | (with_reducible exact budwoodref10_SameWords.mono _ _ _)
   | (with_reducible exact LeO.refl _)
   | (with_reducible exact LeO.none _)
   | (with_reducible refine LeO.ite ?_ ?_)
   | (with_reducible refine LeO.bind ?_ (fun _ => ?_))
   | exact ih0 _ _ _ _ _ _ _ _ _ _ _ _ _
   | exact ih1 _ _ _ _ _ _ _ _ _ _ _ _ _
   | exact budwoodref10_SameTexts.mono _ _ _
   | exact budwoodref10_SameWords.mono _ _ _
   | exact LeO.none _
   | refine LeO.ite ?_ ?_
   | refine LeO.bind ?_ (fun _ => ?_)
set_option maxHeartbeats 8000000 in
set_option maxRecDepth 100000 in
theorem budwoodref10_Same.calls (k : Nat) (a0_0 : ByteArray) (A0_1 : Option Addr) (c0_1 : Nat) (l0_1 : List ByteArray) (A0_2 : Option Addr) (c0_2 : Nat) (l0_2 : List ByteArray) (A0_3 : Option Addr) (c0_3 : Nat) (l0_3 : List Int) (A0_4 : Option Addr) (c0_4 : Nat) (l0_4 : List Int) (A0_5 : Option Addr) (c0_5 : Nat) (l0_5 : List (S43)) (a1_0 : ByteArray) (A1_1 : Option Addr) (c1_1 : Nat) (l1_1 : List ByteArray) (A1_2 : Option Addr) (c1_2 : Nat) (l1_2 : List ByteArray) (A1_3 : Option Addr) (c1_3 : Nat) (l1_3 : List Int) (A1_4 : Option Addr) (c1_4 : Nat) (l1_4 : List Int) (A1_5 : Option Addr) (c1_5 : Nat) (l1_5 : List (S43)) (r : Bool) (w : World) (hr0_1 : Kd.C Kd.string w A0_1 l0_1.length l0_1) (hc0_1 : l0_1.length ≤ c0_1) (hr0_2 : Kd.C Kd.string w A0_2 l0_2.length l0_2) (hc0_2 : l0_2.length ≤ c0_2) (hr0_3 : Kd.C (Kd.int .u32) w A0_3 l0_3.length l0_3) (hc0_3 : l0_3.length ≤ c0_3) (hr0_4 : Kd.C (Kd.int .u32) w A0_4 l0_4.length l0_4) (hc0_4 : l0_4.length ≤ c0_4) (hr0_5 : Kd.C k43 w A0_5 l0_5.length l0_5) (hc0_5 : l0_5.length ≤ c0_5) (hr1_1 : Kd.C Kd.string w A1_1 l1_1.length l1_1) (hc1_1 : l1_1.length ≤ c1_1) (hr1_2 : Kd.C Kd.string w A1_2 l1_2.length l1_2) (hc1_2 : l1_2.length ≤ c1_2) (hr1_3 : Kd.C (Kd.int .u32) w A1_3 l1_3.length l1_3) (hc1_3 : l1_3.length ≤ c1_3) (hr1_4 : Kd.C (Kd.int .u32) w A1_4 l1_4.length l1_4) (hc1_4 : l1_4.length ≤ c1_4) (hr1_5 : Kd.C k43 w A1_5 l1_5.length l1_5) (hc1_5 : l1_5.length ≤ c1_5) (h : budwoodref10_Same.f k a0_0 l0_1 l0_2 l0_3 l0_4 l0_5 a1_0 l1_1 l1_2 l1_3 l1_4 l1_5 = some r) :
  Calls Tryd.prog 20 #[.agg #[.string a0_0, .slice A0_1 l0_1.length c0_1, .slice A0_2 l0_2.length c0_2, .slice A0_3 l0_3.length c0_3, .slice A0_4 l0_4.length c0_4, .slice A0_5 l0_5.length c0_5], .agg #[.string a1_0, .slice A1_1 l1_1.length c1_1, .slice A1_2 l1_2.length c1_2, .slice A1_3 l1_3.length c1_3, .slice A1_4 l1_4.length c1_4, .slice A1_5 l1_5.length c1_5]] w fun e w' => e = .returned (.bool r) ∧ Below w.heap.size w w' := by
 have hu26 := Tryd.underlying26
 have hu43 := Tryd.underlying43
 have HR0_1 := Aside0.mk hr0_1
 have HC0_1 := Aside0.mk hc0_1
 clear hr0_1 hc0_1
 have HR0_2 := Aside0.mk hr0_2
 have HC0_2 := Aside0.mk hc0_2
 clear hr0_2 hc0_2
 have HR0_3 := Aside0.mk hr0_3
 have HC0_3 := Aside0.mk hc0_3
 clear hr0_3 hc0_3
 have HR0_4 := Aside0.mk hr0_4
 have HC0_4 := Aside0.mk hc0_4
 clear hr0_4 hc0_4
 have HR0_5 := Aside0.mk hr0_5
 have HC0_5 := Aside0.mk hc0_5
 clear hr0_5 hc0_5
 have HR1_1 := Aside0.mk hr1_1
 have HC1_1 := Aside0.mk hc1_1
 clear hr1_1 hc1_1
 have HR1_2 := Aside0.mk hr1_2
 have HC1_2 := Aside0.mk hc1_2
 clear hr1_2 hc1_2
 have HR1_3 := Aside0.mk hr1_3
 have HC1_3 := Aside0.mk hc1_3
 clear hr1_3 hc1_3
 have HR1_4 := Aside0.mk hr1_4
 have HC1_4 := Aside0.mk hc1_4
 clear hr1_4 hc1_4
 have HR1_5 := Aside0.mk hr1_5
 have HC1_5 := Aside0.mk hc1_5
 clear hr1_5 hc1_5
 have HB := Aside0.mk (Below.refl w.heap.size w)
 have H : (if a0_0.toList = a1_0.toList then ((budwoodref10_SameTexts.f k l0_1 l1_1).bind fun t103 => (if t103 = true then ((budwoodref10_SameTexts.f k l0_2 l1_2).bind fun t104 => (if t104 = true then ((budwoodref10_SameWords.f k l0_3 l1_3).bind fun t105 => (if t105 = true then ((budwoodref10_SameWords.f k l0_4 l1_4).bind fun t106 => (if t106 = true then (budwoodref10_Same.j0 k ((l0_5.length : Int) != (l1_5.length : Int)) a0_0 l0_1 l0_2 l0_3 l0_4 l0_5 a1_0 l1_1 l1_2 l1_3 l1_4 l1_5) else (budwoodref10_Same.j0 k true a0_0 l0_1 l0_2 l0_3 l0_4 l0_5 a1_0 l1_1 l1_2 l1_3 l1_4 l1_5))) else (budwoodref10_Same.j0 k true a0_0 l0_1 l0_2 l0_3 l0_4 l0_5 a1_0 l1_1 l1_2 l1_3 l1_4 l1_5))) else (budwoodref10_Same.j0 k true a0_0 l0_1 l0_2 l0_3 l0_4 l0_5 a1_0 l1_1 l1_2 l1_3 l1_4 l1_5))) else (budwoodref10_Same.j0 k true a0_0 l0_1 l0_2 l0_3 l0_4 l0_5 a1_0 l1_1 l1_2 l1_3 l1_4 l1_5))) else (budwoodref10_Same.j0 k true a0_0 l0_1 l0_2 l0_3 l0_4 l0_5 a1_0 l1_1 l1_2 l1_3 l1_4 l1_5)) = some r := h
 clear h
 have HC3 := Aside0.mk H
 clear H
 go_enter Tryd.func20, Tryd.ntmps20
 go_upto_region 1 with (first | ((with_reducible refine gate_dst (N := 2) rfl ?_); (try (refine gate_guard (by rfl) ?_; dsimp only)); refine box_event ?hg (N := 2) ?hd (cs := #[.string a0_0, .slice A0_1 l0_1.length c0_1, .slice A0_2 l0_2.length c0_2, .slice A0_3 l0_3.length c0_3, .slice A0_4 l0_4.length c0_4, .slice A0_5 l0_5.length c0_5]) (t := 26) ?hr ?_; (case hd => rfl); (case hg => rfl); (case hr => first | (go_simp; done) | (go_simp; rfl)); intro gb101 hg w4 hbox hb; have n0_ := Aside0.mk (below_step (tg HB.out) hb); have n1_ := Aside0.mk (hbox); have n2_ := Aside0.mk ((by rw [hg]; exact (below_size (tg HB.out)) : w.heap.size ≤ gb101)); have n3_ := Aside0.mk ((by rw [hg]; exact (below_size (tg HB.out)) : w.heap.size ≤ gb101)); clear HB; have HB := n0_; have BK101 := n1_; have GW101 := n2_; have GE101 := n3_; clear n0_ n1_ n2_ n3_; clear hb hbox hg) | ((with_reducible refine gate_dst (N := 3) rfl ?_); (try (refine gate_guard (by rfl) ?_; dsimp only)); refine box_event ?hg (N := 3) ?hd (cs := #[.string a1_0, .slice A1_1 l1_1.length c1_1, .slice A1_2 l1_2.length c1_2, .slice A1_3 l1_3.length c1_3, .slice A1_4 l1_4.length c1_4, .slice A1_5 l1_5.length c1_5]) (t := 26) ?hr ?_; (case hd => rfl); (case hg => rfl); (case hr => first | (go_simp; done) | (go_simp; rfl)); intro gb102 hg w5 hbox hb; have n0_ := ba BK101.out hb; have n1_ := Aside0.mk (below_step (tg1 HB.out GE101.out) hb); have n2_ := Aside0.mk (hbox); have n3_ := Aside0.mk ((by rw [hg]; exact (below_size (tg1 HB.out GE101.out)) : w.heap.size ≤ gb102)); have n4_ := Aside0.mk ((by rw [hg]; exact (below_size (tg1 HB.out GE101.out)) : w.heap.size ≤ gb102)); have n5_ := Aside0.mk ((by rw [hg]; exact Nat.ne_of_lt (blk_lt (g := gb101) (o := .cells #[.string a0_0, .slice A0_1 l0_1.length c0_1, .slice A0_2 l0_2.length c0_2, .slice A0_3 l0_3.length c0_3, .slice A0_4 l0_4.length c0_4, .slice A0_5 l0_5.length c0_5] 26 (0, 0)) (tb BK101.out)) : gb101 ≠ gb102)); have n6_ := Aside0.mk ((by rw [hg]; exact Nat.ne_of_gt (blk_lt (g := gb101) (o := .cells #[.string a0_0, .slice A0_1 l0_1.length c0_1, .slice A0_2 l0_2.length c0_2, .slice A0_3 l0_3.length c0_3, .slice A0_4 l0_4.length c0_4, .slice A0_5 l0_5.length c0_5] 26 (0, 0)) (tb BK101.out)) : gb102 ≠ gb101)); clear BK101; clear HB; have BK101 := n0_; have HB := n1_; have BK102 := n2_; have GW102 := n3_; have GE102 := n4_; have NB101_102 := n5_; have NB102_101 := n6_; clear n0_ n1_ n2_ n3_ n4_ n5_ n6_; clear hb hbox hg))
 repeat (go_quiet (first | ((with_reducible refine gate_dst (N := 2) rfl ?_); (try (refine gate_guard (by rfl) ?_; dsimp only)); refine box_event ?hg (N := 2) ?hd (cs := #[.string a0_0, .slice A0_1 l0_1.length c0_1, .slice A0_2 l0_2.length c0_2, .slice A0_3 l0_3.length c0_3, .slice A0_4 l0_4.length c0_4, .slice A0_5 l0_5.length c0_5]) (t := 26) ?hr ?_; (case hd => rfl); (case hg => rfl); (case hr => first | (go_simp; done) | (go_simp; rfl)); intro gb101 hg w4 hbox hb; have n0_ := Aside0.mk (below_step (tg HB.out) hb); have n1_ := Aside0.mk (hbox); have n2_ := Aside0.mk ((by rw [hg]; exact (below_size (tg HB.out)) : w.heap.size ≤ gb101)); have n3_ := Aside0.mk ((by rw [hg]; exact (below_size (tg HB.out)) : w.heap.size ≤ gb101)); clear HB; have HB := n0_; have BK101 := n1_; have GW101 := n2_; have GE101 := n3_; clear n0_ n1_ n2_ n3_; clear hb hbox hg) | ((with_reducible refine gate_dst (N := 3) rfl ?_); (try (refine gate_guard (by rfl) ?_; dsimp only)); refine box_event ?hg (N := 3) ?hd (cs := #[.string a1_0, .slice A1_1 l1_1.length c1_1, .slice A1_2 l1_2.length c1_2, .slice A1_3 l1_3.length c1_3, .slice A1_4 l1_4.length c1_4, .slice A1_5 l1_5.length c1_5]) (t := 26) ?hr ?_; (case hd => rfl); (case hg => rfl); (case hr => first | (go_simp; done) | (go_simp; rfl)); intro gb102 hg w5 hbox hb; have n0_ := ba BK101.out hb; have n1_ := Aside0.mk (below_step (tg1 HB.out GE101.out) hb); have n2_ := Aside0.mk (hbox); have n3_ := Aside0.mk ((by rw [hg]; exact (below_size (tg1 HB.out GE101.out)) : w.heap.size ≤ gb102)); have n4_ := Aside0.mk ((by rw [hg]; exact (below_size (tg1 HB.out GE101.out)) : w.heap.size ≤ gb102)); have n5_ := Aside0.mk ((by rw [hg]; exact Nat.ne_of_lt (blk_lt (g := gb101) (o := .cells #[.string a0_0, .slice A0_1 l0_1.length c0_1, .slice A0_2 l0_2.length c0_2, .slice A0_3 l0_3.length c0_3, .slice A0_4 l0_4.length c0_4, .slice A0_5 l0_5.length c0_5] 26 (0, 0)) (tb BK101.out)) : gb101 ≠ gb102)); have n6_ := Aside0.mk ((by rw [hg]; exact Nat.ne_of_gt (blk_lt (g := gb101) (o := .cells #[.string a0_0, .slice A0_1 l0_1.length c0_1, .slice A0_2 l0_2.length c0_2, .slice A0_3 l0_3.length c0_3, .slice A0_4 l0_4.length c0_4, .slice A0_5 l0_5.length c0_5] 26 (0, 0)) (tb BK101.out)) : gb102 ≠ gb101)); clear BK101; clear HB; have BK101 := n0_; have HB := n1_; have BK102 := n2_; have GW102 := n3_; have GE102 := n4_; have NB101_102 := n5_; have NB102_101 := n6_; clear n0_ n1_ n2_ n3_ n4_ n5_ n6_; clear hb hbox hg)); go_upto_region 1 with (first | ((with_reducible refine gate_dst (N := 2) rfl ?_); (try (refine gate_guard (by rfl) ?_; dsimp only)); refine box_event ?hg (N := 2) ?hd (cs := #[.string a0_0, .slice A0_1 l0_1.length c0_1, .slice A0_2 l0_2.length c0_2, .slice A0_3 l0_3.length c0_3, .slice A0_4 l0_4.length c0_4, .slice A0_5 l0_5.length c0_5]) (t := 26) ?hr ?_; (case hd => rfl); (case hg => rfl); (case hr => first | (go_simp; done) | (go_simp; rfl)); intro gb101 hg w4 hbox hb; have n0_ := Aside0.mk (below_step (tg HB.out) hb); have n1_ := Aside0.mk (hbox); have n2_ := Aside0.mk ((by rw [hg]; exact (below_size (tg HB.out)) : w.heap.size ≤ gb101)); have n3_ := Aside0.mk ((by rw [hg]; exact (below_size (tg HB.out)) : w.heap.size ≤ gb101)); clear HB; have HB := n0_; have BK101 := n1_; have GW101 := n2_; have GE101 := n3_; clear n0_ n1_ n2_ n3_; clear hb hbox hg) | ((with_reducible refine gate_dst (N := 3) rfl ?_); (try (refine gate_guard (by rfl) ?_; dsimp only)); refine box_event ?hg (N := 3) ?hd (cs := #[.string a1_0, .slice A1_1 l1_1.length c1_1, .slice A1_2 l1_2.length c1_2, .slice A1_3 l1_3.length c1_3, .slice A1_4 l1_4.length c1_4, .slice A1_5 l1_5.length c1_5]) (t := 26) ?hr ?_; (case hd => rfl); (case hg => rfl); (case hr => first | (go_simp; done) | (go_simp; rfl)); intro gb102 hg w5 hbox hb; have n0_ := ba BK101.out hb; have n1_ := Aside0.mk (below_step (tg1 HB.out GE101.out) hb); have n2_ := Aside0.mk (hbox); have n3_ := Aside0.mk ((by rw [hg]; exact (below_size (tg1 HB.out GE101.out)) : w.heap.size ≤ gb102)); have n4_ := Aside0.mk ((by rw [hg]; exact (below_size (tg1 HB.out GE101.out)) : w.heap.size ≤ gb102)); have n5_ := Aside0.mk ((by rw [hg]; exact Nat.ne_of_lt (blk_lt (g := gb101) (o := .cells #[.string a0_0, .slice A0_1 l0_1.length c0_1, .slice A0_2 l0_2.length c0_2, .slice A0_3 l0_3.length c0_3, .slice A0_4 l0_4.length c0_4, .slice A0_5 l0_5.length c0_5] 26 (0, 0)) (tb BK101.out)) : gb101 ≠ gb102)); have n6_ := Aside0.mk ((by rw [hg]; exact Nat.ne_of_gt (blk_lt (g := gb101) (o := .cells #[.string a0_0, .slice A0_1 l0_1.length c0_1, .slice A0_2 l0_2.length c0_2, .slice A0_3 l0_3.length c0_3, .slice A0_4 l0_4.length c0_4, .slice A0_5 l0_5.length c0_5] 26 (0, 0)) (tb BK101.out)) : gb102 ≠ gb101)); clear BK101; clear HB; have BK101 := n0_; have HB := n1_; have BK102 := n2_; have GW102 := n3_; have GE102 := n4_; have NB101_102 := n5_; have NB102_101 := n6_; clear n0_ n1_ n2_ n3_ n4_ n5_ n6_; clear hb hbox hg)))
 (try simp only [Act.put, List.setIfInBounds_toArray, List.set_cons_zero, List.set_cons_succ])
 go_cut [51] (fun v51 wc => ∃ (kq : Nat) (x51_2 : Bool), v51 = .bool x51_2 ∧ Aside0 (budwoodref10_Same.j0 kq x51_2 a0_0 l0_1 l0_2 l0_3 l0_4 l0_5 a1_0 l1_1 l1_2 l1_3 l1_4 l1_5 = some r) ∧ Aside0 (kq ≤ k) ∧ Aside0 (wc.heap[gb101]? = some (.cells #[.string a0_0, (.slice A0_1 l0_1.length c0_1), (.slice A0_2 l0_2.length c0_2), (.slice A0_3 l0_3.length c0_3), (.slice A0_4 l0_4.length c0_4), (.slice A0_5 l0_5.length c0_5)] 26 (0, 0))) ∧ Aside0 (wc.heap[gb102]? = some (.cells #[.string a1_0, (.slice A1_1 l1_1.length c1_1), (.slice A1_2 l1_2.length c1_2), (.slice A1_3 l1_3.length c1_3), (.slice A1_4 l1_4.length c1_4), (.slice A1_5 l1_5.length c1_5)] 26 (0, 0))) ∧ Aside0 (Below w.heap.size w wc))
 case first =>
  have H := HC3.out
  clear HC3
  by_cases c6 : a0_0.toList = a1_0.toList
  ·rw [if_pos c6] at H
   have c6b0 : (a0_0.toList == a1_0.toList) = true := beq_iff_eq.mpr c6
   have c6b1 : (a0_0.toList != a1_0.toList) = false := bne_eq_false_iff_eq.mpr c6
   clear c6
   (first | rw [c6b0] | (simp only [i64_w, i32_w]; rw [c6b0]) | skip)
   replace H := Option.bind_eq_some_iff.mp H
   obtain ⟨t103, A70, H⟩ := H
   replace H : (if t103 = true then ((budwoodref10_SameTexts.f k l0_2 l1_2).bind fun t104 => (if t104 = true then ((budwoodref10_SameWords.f k l0_3 l1_3).bind fun t105 => (if t105 = true then ((budwoodref10_SameWords.f k l0_4 l1_4).bind fun t106 => (if t106 = true then (budwoodref10_Same.j0 k ((l0_5.length : Int) != (l1_5.length : Int)) a0_0 l0_1 l0_2 l0_3 l0_4 l0_5 a1_0 l1_1 l1_2 l1_3 l1_4 l1_5) else (budwoodref10_Same.j0 k true a0_0 l0_1 l0_2 l0_3 l0_4 l0_5 a1_0 l1_1 l1_2 l1_3 l1_4 l1_5))) else (budwoodref10_Same.j0 k true a0_0 l0_1 l0_2 l0_3 l0_4 l0_5 a1_0 l1_1 l1_2 l1_3 l1_4 l1_5))) else (budwoodref10_Same.j0 k true a0_0 l0_1 l0_2 l0_3 l0_4 l0_5 a1_0 l1_1 l1_2 l1_3 l1_4 l1_5))) else (budwoodref10_Same.j0 k true a0_0 l0_1 l0_2 l0_3 l0_4 l0_5 a1_0 l1_1 l1_2 l1_3 l1_4 l1_5)) = some r := H
   have A7 := Aside0.mk A70
   clear A70
   by_cases c8 : t103 = true
   ·subst c8
    have H1 : ((budwoodref10_SameTexts.f k l0_2 l1_2).bind fun t104 => (if t104 = true then ((budwoodref10_SameWords.f k l0_3 l1_3).bind fun t105 => (if t105 = true then ((budwoodref10_SameWords.f k l0_4 l1_4).bind fun t106 => (if t106 = true then (budwoodref10_Same.j0 k ((l0_5.length : Int) != (l1_5.length : Int)) a0_0 l0_1 l0_2 l0_3 l0_4 l0_5 a1_0 l1_1 l1_2 l1_3 l1_4 l1_5) else (budwoodref10_Same.j0 k true a0_0 l0_1 l0_2 l0_3 l0_4 l0_5 a1_0 l1_1 l1_2 l1_3 l1_4 l1_5))) else (budwoodref10_Same.j0 k true a0_0 l0_1 l0_2 l0_3 l0_4 l0_5 a1_0 l1_1 l1_2 l1_3 l1_4 l1_5))) else (budwoodref10_Same.j0 k true a0_0 l0_1 l0_2 l0_3 l0_4 l0_5 a1_0 l1_1 l1_2 l1_3 l1_4 l1_5))) = some r := by rw [if_pos rfl] at H; exact H
    clear H
    have H := H1
    clear H1
    replace H := Option.bind_eq_some_iff.mp H
    obtain ⟨t104, A90, H⟩ := H
    replace H : (if t104 = true then ((budwoodref10_SameWords.f k l0_3 l1_3).bind fun t105 => (if t105 = true then ((budwoodref10_SameWords.f k l0_4 l1_4).bind fun t106 => (if t106 = true then (budwoodref10_Same.j0 k ((l0_5.length : Int) != (l1_5.length : Int)) a0_0 l0_1 l0_2 l0_3 l0_4 l0_5 a1_0 l1_1 l1_2 l1_3 l1_4 l1_5) else (budwoodref10_Same.j0 k true a0_0 l0_1 l0_2 l0_3 l0_4 l0_5 a1_0 l1_1 l1_2 l1_3 l1_4 l1_5))) else (budwoodref10_Same.j0 k true a0_0 l0_1 l0_2 l0_3 l0_4 l0_5 a1_0 l1_1 l1_2 l1_3 l1_4 l1_5))) else (budwoodref10_Same.j0 k true a0_0 l0_1 l0_2 l0_3 l0_4 l0_5 a1_0 l1_1 l1_2 l1_3 l1_4 l1_5)) = some r := H
    have A9 := Aside0.mk A90
    clear A90
    by_cases c10 : t104 = true
    ·subst c10
     have H1 : ((budwoodref10_SameWords.f k l0_3 l1_3).bind fun t105 => (if t105 = true then ((budwoodref10_SameWords.f k l0_4 l1_4).bind fun t106 => (if t106 = true then (budwoodref10_Same.j0 k ((l0_5.length : Int) != (l1_5.length : Int)) a0_0 l0_1 l0_2 l0_3 l0_4 l0_5 a1_0 l1_1 l1_2 l1_3 l1_4 l1_5) else (budwoodref10_Same.j0 k true a0_0 l0_1 l0_2 l0_3 l0_4 l0_5 a1_0 l1_1 l1_2 l1_3 l1_4 l1_5))) else (budwoodref10_Same.j0 k true a0_0 l0_1 l0_2 l0_3 l0_4 l0_5 a1_0 l1_1 l1_2 l1_3 l1_4 l1_5))) = some r := by rw [if_pos rfl] at H; exact H
     clear H
     have H := H1
     clear H1
     replace H := Option.bind_eq_some_iff.mp H
     obtain ⟨t105, A110, H⟩ := H
     replace H : (if t105 = true then ((budwoodref10_SameWords.f k l0_4 l1_4).bind fun t106 => (if t106 = true then (budwoodref10_Same.j0 k ((l0_5.length : Int) != (l1_5.length : Int)) a0_0 l0_1 l0_2 l0_3 l0_4 l0_5 a1_0 l1_1 l1_2 l1_3 l1_4 l1_5) else (budwoodref10_Same.j0 k true a0_0 l0_1 l0_2 l0_3 l0_4 l0_5 a1_0 l1_1 l1_2 l1_3 l1_4 l1_5))) else (budwoodref10_Same.j0 k true a0_0 l0_1 l0_2 l0_3 l0_4 l0_5 a1_0 l1_1 l1_2 l1_3 l1_4 l1_5)) = some r := H
     have A11 := Aside0.mk A110
     clear A110
     by_cases c12 : t105 = true
     ·subst c12
      have H1 : ((budwoodref10_SameWords.f k l0_4 l1_4).bind fun t106 => (if t106 = true then (budwoodref10_Same.j0 k ((l0_5.length : Int) != (l1_5.length : Int)) a0_0 l0_1 l0_2 l0_3 l0_4 l0_5 a1_0 l1_1 l1_2 l1_3 l1_4 l1_5) else (budwoodref10_Same.j0 k true a0_0 l0_1 l0_2 l0_3 l0_4 l0_5 a1_0 l1_1 l1_2 l1_3 l1_4 l1_5))) = some r := by rw [if_pos rfl] at H; exact H
      clear H
      have H := H1
      clear H1
      replace H := Option.bind_eq_some_iff.mp H
      obtain ⟨t106, A130, H⟩ := H
      replace H : (if t106 = true then (budwoodref10_Same.j0 k ((l0_5.length : Int) != (l1_5.length : Int)) a0_0 l0_1 l0_2 l0_3 l0_4 l0_5 a1_0 l1_1 l1_2 l1_3 l1_4 l1_5) else (budwoodref10_Same.j0 k true a0_0 l0_1 l0_2 l0_3 l0_4 l0_5 a1_0 l1_1 l1_2 l1_3 l1_4 l1_5)) = some r := H
      have A13 := Aside0.mk A130
      clear A130
      by_cases c14 : t106 = true
      ·subst c14
       have H1 : (budwoodref10_Same.j0 k ((l0_5.length : Int) != (l1_5.length : Int)) a0_0 l0_1 l0_2 l0_3 l0_4 l0_5 a1_0 l1_1 l1_2 l1_3 l1_4 l1_5) = some r := by rw [if_pos rfl] at H; exact H
       clear H
       have H := H1
       clear H1
       have H' := Aside0.mk H
       clear H
       have hnb15 := NB101_102.out
       have hnc15 := NB102_101.out
       have hcz16_0 := cz BK101.out 0 (.string a0_0)
       have hcz16_1 := cz BK101.out 1 (.slice A0_1 l0_1.length c0_1)
       have hcz16_2 := cz BK101.out 2 (.slice A0_2 l0_2.length c0_2)
       have hcz16_3 := cz BK101.out 3 (.slice A0_3 l0_3.length c0_3)
       have hcz16_4 := cz BK101.out 4 (.slice A0_4 l0_4.length c0_4)
       have hcz16_5 := cz BK101.out 5 (.slice A0_5 l0_5.length c0_5)
       have hfz16_0 := blk_frozen BK101.out 0
       have hfz16_1 := blk_frozen BK101.out 1
       have hfz16_2 := blk_frozen BK101.out 2
       have hfz16_3 := blk_frozen BK101.out 3
       have hfz16_4 := blk_frozen BK101.out 4
       have hfz16_5 := blk_frozen BK101.out 5
       have hcz17_0 := cz BK102.out 0 (.string a1_0)
       have hcz17_1 := cz BK102.out 1 (.slice A1_1 l1_1.length c1_1)
       have hcz17_2 := cz BK102.out 2 (.slice A1_2 l1_2.length c1_2)
       have hcz17_3 := cz BK102.out 3 (.slice A1_3 l1_3.length c1_3)
       have hcz17_4 := cz BK102.out 4 (.slice A1_4 l1_4.length c1_4)
       have hcz17_5 := cz BK102.out 5 (.slice A1_5 l1_5.length c1_5)
       have hfz17_0 := blk_frozen BK102.out 0
       have hfz17_1 := blk_frozen BK102.out 1
       have hfz17_2 := blk_frozen BK102.out 2
       have hfz17_3 := blk_frozen BK102.out 3
       have hfz17_4 := blk_frozen BK102.out 4
       have hfz17_5 := blk_frozen BK102.out 5
       go_wp2_with (first | (go_at_call 49; (with_reducible refine (budwoodref10_SameTexts.calls k _ _ l0_1 _ _ l1_1 true _ ?side1 ?side2 ?side3 ?side4 A7.out).mono ?_); (case side1 => exact tc (Kd.C_below HR0_1.out HB.out)); (case side2 => exact HC0_1.out); (case side3 => exact tc (Kd.C_below HR1_1.out HB.out)); (case side4 => exact HC1_1.out); rintro e w' ⟨rfl, ⟨nd, rfl⟩⟩; (try first | exact ⟨rfl, _, World.drewN_drewN _ _ _⟩ | exact ⟨rfl, _, Eq.trans (World.drewN_drewN _ _ _) (congrArg (World.drewN _) (Nat.add_assoc _ _ _))⟩)) | (go_at_call 49; (with_reducible refine (budwoodref10_SameTexts.calls k _ _ l0_2 _ _ l1_2 true _ ?side1 ?side2 ?side3 ?side4 A9.out).mono ?_); (case side1 => repeat (first | exact (Kd.C_below HR0_2.out (tg2 HB.out GE101.out GE102.out)) | (with_reducible refine Kd.C_alloc ?_ _) | (with_reducible refine Kd.C_drewN ?_ _) | (with_reducible refine Kd.C_drew ?_))); (case side2 => exact HC0_2.out); (case side3 => repeat (first | exact (Kd.C_below HR1_2.out (tg2 HB.out GE101.out GE102.out)) | (with_reducible refine Kd.C_alloc ?_ _) | (with_reducible refine Kd.C_drewN ?_ _) | (with_reducible refine Kd.C_drew ?_))); (case side4 => exact HC1_2.out); rintro e w' ⟨rfl, ⟨nd, rfl⟩⟩; (try first | exact ⟨rfl, _, World.drewN_drewN _ _ _⟩ | exact ⟨rfl, _, Eq.trans (World.drewN_drewN _ _ _) (congrArg (World.drewN _) (Nat.add_assoc _ _ _))⟩)) | (go_at_call 28; (with_reducible refine (budwoodref10_SameWords.calls k _ _ l0_3 _ _ l1_3 true _ ?side1 ?side2 ?side3 ?side4 A11.out).mono ?_); (case side1 => repeat (first | exact (Kd.C_below HR0_3.out (tg2 HB.out GE101.out GE102.out)) | (with_reducible refine Kd.C_alloc ?_ _) | (with_reducible refine Kd.C_drewN ?_ _) | (with_reducible refine Kd.C_drew ?_))); (case side2 => exact HC0_3.out); (case side3 => repeat (first | exact (Kd.C_below HR1_3.out (tg2 HB.out GE101.out GE102.out)) | (with_reducible refine Kd.C_alloc ?_ _) | (with_reducible refine Kd.C_drewN ?_ _) | (with_reducible refine Kd.C_drew ?_))); (case side4 => exact HC1_3.out); rintro e w' ⟨rfl, ⟨nd, rfl⟩⟩; (try first | exact ⟨rfl, _, World.drewN_drewN _ _ _⟩ | exact ⟨rfl, _, Eq.trans (World.drewN_drewN _ _ _) (congrArg (World.drewN _) (Nat.add_assoc _ _ _))⟩)) | (go_at_call 28; (with_reducible refine (budwoodref10_SameWords.calls k _ _ l0_4 _ _ l1_4 true _ ?side1 ?side2 ?side3 ?side4 A13.out).mono ?_); (case side1 => repeat (first | exact (Kd.C_below HR0_4.out (tg2 HB.out GE101.out GE102.out)) | (with_reducible refine Kd.C_alloc ?_ _) | (with_reducible refine Kd.C_drewN ?_ _) | (with_reducible refine Kd.C_drew ?_))); (case side2 => exact HC0_4.out); (case side3 => repeat (first | exact (Kd.C_below HR1_4.out (tg2 HB.out GE101.out GE102.out)) | (with_reducible refine Kd.C_alloc ?_ _) | (with_reducible refine Kd.C_drewN ?_ _) | (with_reducible refine Kd.C_drew ?_))); (case side4 => exact HC1_4.out); rintro e w' ⟨rfl, ⟨nd, rfl⟩⟩; (try first | exact ⟨rfl, _, World.drewN_drewN _ _ _⟩ | exact ⟨rfl, _, Eq.trans (World.drewN_drewN _ _ _) (congrArg (World.drewN _) (Nat.add_assoc _ _ _))⟩)))
       repeat (go_quiet (first | (go_at_call 49; (with_reducible refine (budwoodref10_SameTexts.calls k _ _ l0_1 _ _ l1_1 true _ ?side1 ?side2 ?side3 ?side4 A7.out).mono ?_); (case side1 => exact tc (Kd.C_below HR0_1.out HB.out)); (case side2 => exact HC0_1.out); (case side3 => exact tc (Kd.C_below HR1_1.out HB.out)); (case side4 => exact HC1_1.out); rintro e w' ⟨rfl, ⟨nd, rfl⟩⟩; (try first | exact ⟨rfl, _, World.drewN_drewN _ _ _⟩ | exact ⟨rfl, _, Eq.trans (World.drewN_drewN _ _ _) (congrArg (World.drewN _) (Nat.add_assoc _ _ _))⟩)) | (go_at_call 49; (with_reducible refine (budwoodref10_SameTexts.calls k _ _ l0_2 _ _ l1_2 true _ ?side1 ?side2 ?side3 ?side4 A9.out).mono ?_); (case side1 => repeat (first | exact (Kd.C_below HR0_2.out (tg2 HB.out GE101.out GE102.out)) | (with_reducible refine Kd.C_alloc ?_ _) | (with_reducible refine Kd.C_drewN ?_ _) | (with_reducible refine Kd.C_drew ?_))); (case side2 => exact HC0_2.out); (case side3 => repeat (first | exact (Kd.C_below HR1_2.out (tg2 HB.out GE101.out GE102.out)) | (with_reducible refine Kd.C_alloc ?_ _) | (with_reducible refine Kd.C_drewN ?_ _) | (with_reducible refine Kd.C_drew ?_))); (case side4 => exact HC1_2.out); rintro e w' ⟨rfl, ⟨nd, rfl⟩⟩; (try first | exact ⟨rfl, _, World.drewN_drewN _ _ _⟩ | exact ⟨rfl, _, Eq.trans (World.drewN_drewN _ _ _) (congrArg (World.drewN _) (Nat.add_assoc _ _ _))⟩)) | (go_at_call 28; (with_reducible refine (budwoodref10_SameWords.calls k _ _ l0_3 _ _ l1_3 true _ ?side1 ?side2 ?side3 ?side4 A11.out).mono ?_); (case side1 => repeat (first | exact (Kd.C_below HR0_3.out (tg2 HB.out GE101.out GE102.out)) | (with_reducible refine Kd.C_alloc ?_ _) | (with_reducible refine Kd.C_drewN ?_ _) | (with_reducible refine Kd.C_drew ?_))); (case side2 => exact HC0_3.out); (case side3 => repeat (first | exact (Kd.C_below HR1_3.out (tg2 HB.out GE101.out GE102.out)) | (with_reducible refine Kd.C_alloc ?_ _) | (with_reducible refine Kd.C_drewN ?_ _) | (with_reducible refine Kd.C_drew ?_))); (case side4 => exact HC1_3.out); rintro e w' ⟨rfl, ⟨nd, rfl⟩⟩; (try first | exact ⟨rfl, _, World.drewN_drewN _ _ _⟩ | exact ⟨rfl, _, Eq.trans (World.drewN_drewN _ _ _) (congrArg (World.drewN _) (Nat.add_assoc _ _ _))⟩)) | (go_at_call 28; (with_reducible refine (budwoodref10_SameWords.calls k _ _ l0_4 _ _ l1_4 true _ ?side1 ?side2 ?side3 ?side4 A13.out).mono ?_); (case side1 => repeat (first | exact (Kd.C_below HR0_4.out (tg2 HB.out GE101.out GE102.out)) | (with_reducible refine Kd.C_alloc ?_ _) | (with_reducible refine Kd.C_drewN ?_ _) | (with_reducible refine Kd.C_drew ?_))); (case side2 => exact HC0_4.out); (case side3 => repeat (first | exact (Kd.C_below HR1_4.out (tg2 HB.out GE101.out GE102.out)) | (with_reducible refine Kd.C_alloc ?_ _) | (with_reducible refine Kd.C_drewN ?_ _) | (with_reducible refine Kd.C_drew ?_))); (case side4 => exact HC1_4.out); rintro e w' ⟨rfl, ⟨nd, rfl⟩⟩; (try first | exact ⟨rfl, _, World.drewN_drewN _ _ _⟩ | exact ⟨rfl, _, Eq.trans (World.drewN_drewN _ _ _) (congrArg (World.drewN _) (Nat.add_assoc _ _ _))⟩))); try go_wp2_with (first | (go_at_call 49; (with_reducible refine (budwoodref10_SameTexts.calls k _ _ l0_1 _ _ l1_1 true _ ?side1 ?side2 ?side3 ?side4 A7.out).mono ?_); (case side1 => exact tc (Kd.C_below HR0_1.out HB.out)); (case side2 => exact HC0_1.out); (case side3 => exact tc (Kd.C_below HR1_1.out HB.out)); (case side4 => exact HC1_1.out); rintro e w' ⟨rfl, ⟨nd, rfl⟩⟩; (try first | exact ⟨rfl, _, World.drewN_drewN _ _ _⟩ | exact ⟨rfl, _, Eq.trans (World.drewN_drewN _ _ _) (congrArg (World.drewN _) (Nat.add_assoc _ _ _))⟩)) | (go_at_call 49; (with_reducible refine (budwoodref10_SameTexts.calls k _ _ l0_2 _ _ l1_2 true _ ?side1 ?side2 ?side3 ?side4 A9.out).mono ?_); (case side1 => repeat (first | exact (Kd.C_below HR0_2.out (tg2 HB.out GE101.out GE102.out)) | (with_reducible refine Kd.C_alloc ?_ _) | (with_reducible refine Kd.C_drewN ?_ _) | (with_reducible refine Kd.C_drew ?_))); (case side2 => exact HC0_2.out); (case side3 => repeat (first | exact (Kd.C_below HR1_2.out (tg2 HB.out GE101.out GE102.out)) | (with_reducible refine Kd.C_alloc ?_ _) | (with_reducible refine Kd.C_drewN ?_ _) | (with_reducible refine Kd.C_drew ?_))); (case side4 => exact HC1_2.out); rintro e w' ⟨rfl, ⟨nd, rfl⟩⟩; (try first | exact ⟨rfl, _, World.drewN_drewN _ _ _⟩ | exact ⟨rfl, _, Eq.trans (World.drewN_drewN _ _ _) (congrArg (World.drewN _) (Nat.add_assoc _ _ _))⟩)) | (go_at_call 28; (with_reducible refine (budwoodref10_SameWords.calls k _ _ l0_3 _ _ l1_3 true _ ?side1 ?side2 ?side3 ?side4 A11.out).mono ?_); (case side1 => repeat (first | exact (Kd.C_below HR0_3.out (tg2 HB.out GE101.out GE102.out)) | (with_reducible refine Kd.C_alloc ?_ _) | (with_reducible refine Kd.C_drewN ?_ _) | (with_reducible refine Kd.C_drew ?_))); (case side2 => exact HC0_3.out); (case side3 => repeat (first | exact (Kd.C_below HR1_3.out (tg2 HB.out GE101.out GE102.out)) | (with_reducible refine Kd.C_alloc ?_ _) | (with_reducible refine Kd.C_drewN ?_ _) | (with_reducible refine Kd.C_drew ?_))); (case side4 => exact HC1_3.out); rintro e w' ⟨rfl, ⟨nd, rfl⟩⟩; (try first | exact ⟨rfl, _, World.drewN_drewN _ _ _⟩ | exact ⟨rfl, _, Eq.trans (World.drewN_drewN _ _ _) (congrArg (World.drewN _) (Nat.add_assoc _ _ _))⟩)) | (go_at_call 28; (with_reducible refine (budwoodref10_SameWords.calls k _ _ l0_4 _ _ l1_4 true _ ?side1 ?side2 ?side3 ?side4 A13.out).mono ?_); (case side1 => repeat (first | exact (Kd.C_below HR0_4.out (tg2 HB.out GE101.out GE102.out)) | (with_reducible refine Kd.C_alloc ?_ _) | (with_reducible refine Kd.C_drewN ?_ _) | (with_reducible refine Kd.C_drew ?_))); (case side2 => exact HC0_4.out); (case side3 => repeat (first | exact (Kd.C_below HR1_4.out (tg2 HB.out GE101.out GE102.out)) | (with_reducible refine Kd.C_alloc ?_ _) | (with_reducible refine Kd.C_drewN ?_ _) | (with_reducible refine Kd.C_drew ?_))); (case side4 => exact HC1_4.out); rintro e w' ⟨rfl, ⟨nd, rfl⟩⟩; (try first | exact ⟨rfl, _, World.drewN_drewN _ _ _⟩ | exact ⟨rfl, _, Eq.trans (World.drewN_drewN _ _ _) (congrArg (World.drewN _) (Nat.add_assoc _ _ _))⟩))))
       go_meet
       case rel => exact ⟨_, (((l0_5.length : Int) != (l1_5.length : Int))), (by first | rfl | (simp; done) | (simp [*]; done)), H', ⟨by first | omega | exact Nat.le_refl _⟩, ⟨by (with_reducible repeat (first | refine blk_drewN ?_ _ | refine blk_drew ?_ | refine blk_alloc ?_ _)); exact BK101.out⟩, ⟨by (with_reducible repeat (first | refine blk_drewN ?_ _ | refine blk_drew ?_ | refine blk_alloc ?_ _)); exact BK102.out⟩, ⟨tg2 HB.out GE101.out GE102.out⟩⟩
      ·replace c14 := Bool.eq_false_iff.mpr c14
       subst c14
       have H1 : (budwoodref10_Same.j0 k true a0_0 l0_1 l0_2 l0_3 l0_4 l0_5 a1_0 l1_1 l1_2 l1_3 l1_4 l1_5) = some r := by rw [if_neg (show ¬ (false = true) by decide)] at H; exact H
       clear H
       have H := H1
       clear H1
       have H' := Aside0.mk H
       clear H
       have hnb18 := NB101_102.out
       have hnc18 := NB102_101.out
       have hcz19_0 := cz BK101.out 0 (.string a0_0)
       have hcz19_1 := cz BK101.out 1 (.slice A0_1 l0_1.length c0_1)
       have hcz19_2 := cz BK101.out 2 (.slice A0_2 l0_2.length c0_2)
       have hcz19_3 := cz BK101.out 3 (.slice A0_3 l0_3.length c0_3)
       have hcz19_4 := cz BK101.out 4 (.slice A0_4 l0_4.length c0_4)
       have hcz19_5 := cz BK101.out 5 (.slice A0_5 l0_5.length c0_5)
       have hfz19_0 := blk_frozen BK101.out 0
       have hfz19_1 := blk_frozen BK101.out 1
       have hfz19_2 := blk_frozen BK101.out 2
       have hfz19_3 := blk_frozen BK101.out 3
       have hfz19_4 := blk_frozen BK101.out 4
       have hfz19_5 := blk_frozen BK101.out 5
       have hcz20_0 := cz BK102.out 0 (.string a1_0)
       have hcz20_1 := cz BK102.out 1 (.slice A1_1 l1_1.length c1_1)
       have hcz20_2 := cz BK102.out 2 (.slice A1_2 l1_2.length c1_2)
       have hcz20_3 := cz BK102.out 3 (.slice A1_3 l1_3.length c1_3)
       have hcz20_4 := cz BK102.out 4 (.slice A1_4 l1_4.length c1_4)
       have hcz20_5 := cz BK102.out 5 (.slice A1_5 l1_5.length c1_5)
       have hfz20_0 := blk_frozen BK102.out 0
       have hfz20_1 := blk_frozen BK102.out 1
       have hfz20_2 := blk_frozen BK102.out 2
       have hfz20_3 := blk_frozen BK102.out 3
       have hfz20_4 := blk_frozen BK102.out 4
       have hfz20_5 := blk_frozen BK102.out 5
       go_wp2_with (first | (go_at_call 49; (with_reducible refine (budwoodref10_SameTexts.calls k _ _ l0_1 _ _ l1_1 true _ ?side1 ?side2 ?side3 ?side4 A7.out).mono ?_); (case side1 => exact tc (Kd.C_below HR0_1.out HB.out)); (case side2 => exact HC0_1.out); (case side3 => exact tc (Kd.C_below HR1_1.out HB.out)); (case side4 => exact HC1_1.out); rintro e w' ⟨rfl, ⟨nd, rfl⟩⟩; (try first | exact ⟨rfl, _, World.drewN_drewN _ _ _⟩ | exact ⟨rfl, _, Eq.trans (World.drewN_drewN _ _ _) (congrArg (World.drewN _) (Nat.add_assoc _ _ _))⟩)) | (go_at_call 49; (with_reducible refine (budwoodref10_SameTexts.calls k _ _ l0_2 _ _ l1_2 true _ ?side1 ?side2 ?side3 ?side4 A9.out).mono ?_); (case side1 => repeat (first | exact (Kd.C_below HR0_2.out (tg2 HB.out GE101.out GE102.out)) | (with_reducible refine Kd.C_alloc ?_ _) | (with_reducible refine Kd.C_drewN ?_ _) | (with_reducible refine Kd.C_drew ?_))); (case side2 => exact HC0_2.out); (case side3 => repeat (first | exact (Kd.C_below HR1_2.out (tg2 HB.out GE101.out GE102.out)) | (with_reducible refine Kd.C_alloc ?_ _) | (with_reducible refine Kd.C_drewN ?_ _) | (with_reducible refine Kd.C_drew ?_))); (case side4 => exact HC1_2.out); rintro e w' ⟨rfl, ⟨nd, rfl⟩⟩; (try first | exact ⟨rfl, _, World.drewN_drewN _ _ _⟩ | exact ⟨rfl, _, Eq.trans (World.drewN_drewN _ _ _) (congrArg (World.drewN _) (Nat.add_assoc _ _ _))⟩)) | (go_at_call 28; (with_reducible refine (budwoodref10_SameWords.calls k _ _ l0_3 _ _ l1_3 true _ ?side1 ?side2 ?side3 ?side4 A11.out).mono ?_); (case side1 => repeat (first | exact (Kd.C_below HR0_3.out (tg2 HB.out GE101.out GE102.out)) | (with_reducible refine Kd.C_alloc ?_ _) | (with_reducible refine Kd.C_drewN ?_ _) | (with_reducible refine Kd.C_drew ?_))); (case side2 => exact HC0_3.out); (case side3 => repeat (first | exact (Kd.C_below HR1_3.out (tg2 HB.out GE101.out GE102.out)) | (with_reducible refine Kd.C_alloc ?_ _) | (with_reducible refine Kd.C_drewN ?_ _) | (with_reducible refine Kd.C_drew ?_))); (case side4 => exact HC1_3.out); rintro e w' ⟨rfl, ⟨nd, rfl⟩⟩; (try first | exact ⟨rfl, _, World.drewN_drewN _ _ _⟩ | exact ⟨rfl, _, Eq.trans (World.drewN_drewN _ _ _) (congrArg (World.drewN _) (Nat.add_assoc _ _ _))⟩)) | (go_at_call 28; (with_reducible refine (budwoodref10_SameWords.calls k _ _ l0_4 _ _ l1_4 false _ ?side1 ?side2 ?side3 ?side4 A13.out).mono ?_); (case side1 => repeat (first | exact (Kd.C_below HR0_4.out (tg2 HB.out GE101.out GE102.out)) | (with_reducible refine Kd.C_alloc ?_ _) | (with_reducible refine Kd.C_drewN ?_ _) | (with_reducible refine Kd.C_drew ?_))); (case side2 => exact HC0_4.out); (case side3 => repeat (first | exact (Kd.C_below HR1_4.out (tg2 HB.out GE101.out GE102.out)) | (with_reducible refine Kd.C_alloc ?_ _) | (with_reducible refine Kd.C_drewN ?_ _) | (with_reducible refine Kd.C_drew ?_))); (case side4 => exact HC1_4.out); rintro e w' ⟨rfl, ⟨nd, rfl⟩⟩; (try first | exact ⟨rfl, _, World.drewN_drewN _ _ _⟩ | exact ⟨rfl, _, Eq.trans (World.drewN_drewN _ _ _) (congrArg (World.drewN _) (Nat.add_assoc _ _ _))⟩)))
       repeat (go_quiet (first | (go_at_call 49; (with_reducible refine (budwoodref10_SameTexts.calls k _ _ l0_1 _ _ l1_1 true _ ?side1 ?side2 ?side3 ?side4 A7.out).mono ?_); (case side1 => exact tc (Kd.C_below HR0_1.out HB.out)); (case side2 => exact HC0_1.out); (case side3 => exact tc (Kd.C_below HR1_1.out HB.out)); (case side4 => exact HC1_1.out); rintro e w' ⟨rfl, ⟨nd, rfl⟩⟩; (try first | exact ⟨rfl, _, World.drewN_drewN _ _ _⟩ | exact ⟨rfl, _, Eq.trans (World.drewN_drewN _ _ _) (congrArg (World.drewN _) (Nat.add_assoc _ _ _))⟩)) | (go_at_call 49; (with_reducible refine (budwoodref10_SameTexts.calls k _ _ l0_2 _ _ l1_2 true _ ?side1 ?side2 ?side3 ?side4 A9.out).mono ?_); (case side1 => repeat (first | exact (Kd.C_below HR0_2.out (tg2 HB.out GE101.out GE102.out)) | (with_reducible refine Kd.C_alloc ?_ _) | (with_reducible refine Kd.C_drewN ?_ _) | (with_reducible refine Kd.C_drew ?_))); (case side2 => exact HC0_2.out); (case side3 => repeat (first | exact (Kd.C_below HR1_2.out (tg2 HB.out GE101.out GE102.out)) | (with_reducible refine Kd.C_alloc ?_ _) | (with_reducible refine Kd.C_drewN ?_ _) | (with_reducible refine Kd.C_drew ?_))); (case side4 => exact HC1_2.out); rintro e w' ⟨rfl, ⟨nd, rfl⟩⟩; (try first | exact ⟨rfl, _, World.drewN_drewN _ _ _⟩ | exact ⟨rfl, _, Eq.trans (World.drewN_drewN _ _ _) (congrArg (World.drewN _) (Nat.add_assoc _ _ _))⟩)) | (go_at_call 28; (with_reducible refine (budwoodref10_SameWords.calls k _ _ l0_3 _ _ l1_3 true _ ?side1 ?side2 ?side3 ?side4 A11.out).mono ?_); (case side1 => repeat (first | exact (Kd.C_below HR0_3.out (tg2 HB.out GE101.out GE102.out)) | (with_reducible refine Kd.C_alloc ?_ _) | (with_reducible refine Kd.C_drewN ?_ _) | (with_reducible refine Kd.C_drew ?_))); (case side2 => exact HC0_3.out); (case side3 => repeat (first | exact (Kd.C_below HR1_3.out (tg2 HB.out GE101.out GE102.out)) | (with_reducible refine Kd.C_alloc ?_ _) | (with_reducible refine Kd.C_drewN ?_ _) | (with_reducible refine Kd.C_drew ?_))); (case side4 => exact HC1_3.out); rintro e w' ⟨rfl, ⟨nd, rfl⟩⟩; (try first | exact ⟨rfl, _, World.drewN_drewN _ _ _⟩ | exact ⟨rfl, _, Eq.trans (World.drewN_drewN _ _ _) (congrArg (World.drewN _) (Nat.add_assoc _ _ _))⟩)) | (go_at_call 28; (with_reducible refine (budwoodref10_SameWords.calls k _ _ l0_4 _ _ l1_4 false _ ?side1 ?side2 ?side3 ?side4 A13.out).mono ?_); (case side1 => repeat (first | exact (Kd.C_below HR0_4.out (tg2 HB.out GE101.out GE102.out)) | (with_reducible refine Kd.C_alloc ?_ _) | (with_reducible refine Kd.C_drewN ?_ _) | (with_reducible refine Kd.C_drew ?_))); (case side2 => exact HC0_4.out); (case side3 => repeat (first | exact (Kd.C_below HR1_4.out (tg2 HB.out GE101.out GE102.out)) | (with_reducible refine Kd.C_alloc ?_ _) | (with_reducible refine Kd.C_drewN ?_ _) | (with_reducible refine Kd.C_drew ?_))); (case side4 => exact HC1_4.out); rintro e w' ⟨rfl, ⟨nd, rfl⟩⟩; (try first | exact ⟨rfl, _, World.drewN_drewN _ _ _⟩ | exact ⟨rfl, _, Eq.trans (World.drewN_drewN _ _ _) (congrArg (World.drewN _) (Nat.add_assoc _ _ _))⟩))); try go_wp2_with (first | (go_at_call 49; (with_reducible refine (budwoodref10_SameTexts.calls k _ _ l0_1 _ _ l1_1 true _ ?side1 ?side2 ?side3 ?side4 A7.out).mono ?_); (case side1 => exact tc (Kd.C_below HR0_1.out HB.out)); (case side2 => exact HC0_1.out); (case side3 => exact tc (Kd.C_below HR1_1.out HB.out)); (case side4 => exact HC1_1.out); rintro e w' ⟨rfl, ⟨nd, rfl⟩⟩; (try first | exact ⟨rfl, _, World.drewN_drewN _ _ _⟩ | exact ⟨rfl, _, Eq.trans (World.drewN_drewN _ _ _) (congrArg (World.drewN _) (Nat.add_assoc _ _ _))⟩)) | (go_at_call 49; (with_reducible refine (budwoodref10_SameTexts.calls k _ _ l0_2 _ _ l1_2 true _ ?side1 ?side2 ?side3 ?side4 A9.out).mono ?_); (case side1 => repeat (first | exact (Kd.C_below HR0_2.out (tg2 HB.out GE101.out GE102.out)) | (with_reducible refine Kd.C_alloc ?_ _) | (with_reducible refine Kd.C_drewN ?_ _) | (with_reducible refine Kd.C_drew ?_))); (case side2 => exact HC0_2.out); (case side3 => repeat (first | exact (Kd.C_below HR1_2.out (tg2 HB.out GE101.out GE102.out)) | (with_reducible refine Kd.C_alloc ?_ _) | (with_reducible refine Kd.C_drewN ?_ _) | (with_reducible refine Kd.C_drew ?_))); (case side4 => exact HC1_2.out); rintro e w' ⟨rfl, ⟨nd, rfl⟩⟩; (try first | exact ⟨rfl, _, World.drewN_drewN _ _ _⟩ | exact ⟨rfl, _, Eq.trans (World.drewN_drewN _ _ _) (congrArg (World.drewN _) (Nat.add_assoc _ _ _))⟩)) | (go_at_call 28; (with_reducible refine (budwoodref10_SameWords.calls k _ _ l0_3 _ _ l1_3 true _ ?side1 ?side2 ?side3 ?side4 A11.out).mono ?_); (case side1 => repeat (first | exact (Kd.C_below HR0_3.out (tg2 HB.out GE101.out GE102.out)) | (with_reducible refine Kd.C_alloc ?_ _) | (with_reducible refine Kd.C_drewN ?_ _) | (with_reducible refine Kd.C_drew ?_))); (case side2 => exact HC0_3.out); (case side3 => repeat (first | exact (Kd.C_below HR1_3.out (tg2 HB.out GE101.out GE102.out)) | (with_reducible refine Kd.C_alloc ?_ _) | (with_reducible refine Kd.C_drewN ?_ _) | (with_reducible refine Kd.C_drew ?_))); (case side4 => exact HC1_3.out); rintro e w' ⟨rfl, ⟨nd, rfl⟩⟩; (try first | exact ⟨rfl, _, World.drewN_drewN _ _ _⟩ | exact ⟨rfl, _, Eq.trans (World.drewN_drewN _ _ _) (congrArg (World.drewN _) (Nat.add_assoc _ _ _))⟩)) | (go_at_call 28; (with_reducible refine (budwoodref10_SameWords.calls k _ _ l0_4 _ _ l1_4 false _ ?side1 ?side2 ?side3 ?side4 A13.out).mono ?_); (case side1 => repeat (first | exact (Kd.C_below HR0_4.out (tg2 HB.out GE101.out GE102.out)) | (with_reducible refine Kd.C_alloc ?_ _) | (with_reducible refine Kd.C_drewN ?_ _) | (with_reducible refine Kd.C_drew ?_))); (case side2 => exact HC0_4.out); (case side3 => repeat (first | exact (Kd.C_below HR1_4.out (tg2 HB.out GE101.out GE102.out)) | (with_reducible refine Kd.C_alloc ?_ _) | (with_reducible refine Kd.C_drewN ?_ _) | (with_reducible refine Kd.C_drew ?_))); (case side4 => exact HC1_4.out); rintro e w' ⟨rfl, ⟨nd, rfl⟩⟩; (try first | exact ⟨rfl, _, World.drewN_drewN _ _ _⟩ | exact ⟨rfl, _, Eq.trans (World.drewN_drewN _ _ _) (congrArg (World.drewN _) (Nat.add_assoc _ _ _))⟩))))
       go_meet
       case rel => exact ⟨_, (true), (by first | rfl | (simp; done) | (simp [*]; done)), H', ⟨by first | omega | exact Nat.le_refl _⟩, ⟨by (with_reducible repeat (first | refine blk_drewN ?_ _ | refine blk_drew ?_ | refine blk_alloc ?_ _)); exact BK101.out⟩, ⟨by (with_reducible repeat (first | refine blk_drewN ?_ _ | refine blk_drew ?_ | refine blk_alloc ?_ _)); exact BK102.out⟩, ⟨tg2 HB.out GE101.out GE102.out⟩⟩
     ·replace c12 := Bool.eq_false_iff.mpr c12
      subst c12
      have H1 : (budwoodref10_Same.j0 k true a0_0 l0_1 l0_2 l0_3 l0_4 l0_5 a1_0 l1_1 l1_2 l1_3 l1_4 l1_5) = some r := by rw [if_neg (show ¬ (false = true) by decide)] at H; exact H
      clear H
      have H := H1
      clear H1
      have H' := Aside0.mk H
      clear H
      have hnb21 := NB101_102.out
      have hnc21 := NB102_101.out
      have hcz22_0 := cz BK101.out 0 (.string a0_0)
      have hcz22_1 := cz BK101.out 1 (.slice A0_1 l0_1.length c0_1)
      have hcz22_2 := cz BK101.out 2 (.slice A0_2 l0_2.length c0_2)
      have hcz22_3 := cz BK101.out 3 (.slice A0_3 l0_3.length c0_3)
      have hcz22_4 := cz BK101.out 4 (.slice A0_4 l0_4.length c0_4)
      have hcz22_5 := cz BK101.out 5 (.slice A0_5 l0_5.length c0_5)
      have hfz22_0 := blk_frozen BK101.out 0
      have hfz22_1 := blk_frozen BK101.out 1
      have hfz22_2 := blk_frozen BK101.out 2
      have hfz22_3 := blk_frozen BK101.out 3
      have hfz22_4 := blk_frozen BK101.out 4
      have hfz22_5 := blk_frozen BK101.out 5
      have hcz23_0 := cz BK102.out 0 (.string a1_0)
      have hcz23_1 := cz BK102.out 1 (.slice A1_1 l1_1.length c1_1)
      have hcz23_2 := cz BK102.out 2 (.slice A1_2 l1_2.length c1_2)
      have hcz23_3 := cz BK102.out 3 (.slice A1_3 l1_3.length c1_3)
      have hcz23_4 := cz BK102.out 4 (.slice A1_4 l1_4.length c1_4)
      have hcz23_5 := cz BK102.out 5 (.slice A1_5 l1_5.length c1_5)
      have hfz23_0 := blk_frozen BK102.out 0
      have hfz23_1 := blk_frozen BK102.out 1
      have hfz23_2 := blk_frozen BK102.out 2
      have hfz23_3 := blk_frozen BK102.out 3
      have hfz23_4 := blk_frozen BK102.out 4
      have hfz23_5 := blk_frozen BK102.out 5
      go_wp2_with (first | (go_at_call 49; (with_reducible refine (budwoodref10_SameTexts.calls k _ _ l0_1 _ _ l1_1 true _ ?side1 ?side2 ?side3 ?side4 A7.out).mono ?_); (case side1 => exact tc (Kd.C_below HR0_1.out HB.out)); (case side2 => exact HC0_1.out); (case side3 => exact tc (Kd.C_below HR1_1.out HB.out)); (case side4 => exact HC1_1.out); rintro e w' ⟨rfl, ⟨nd, rfl⟩⟩; (try first | exact ⟨rfl, _, World.drewN_drewN _ _ _⟩ | exact ⟨rfl, _, Eq.trans (World.drewN_drewN _ _ _) (congrArg (World.drewN _) (Nat.add_assoc _ _ _))⟩)) | (go_at_call 49; (with_reducible refine (budwoodref10_SameTexts.calls k _ _ l0_2 _ _ l1_2 true _ ?side1 ?side2 ?side3 ?side4 A9.out).mono ?_); (case side1 => repeat (first | exact (Kd.C_below HR0_2.out (tg2 HB.out GE101.out GE102.out)) | (with_reducible refine Kd.C_alloc ?_ _) | (with_reducible refine Kd.C_drewN ?_ _) | (with_reducible refine Kd.C_drew ?_))); (case side2 => exact HC0_2.out); (case side3 => repeat (first | exact (Kd.C_below HR1_2.out (tg2 HB.out GE101.out GE102.out)) | (with_reducible refine Kd.C_alloc ?_ _) | (with_reducible refine Kd.C_drewN ?_ _) | (with_reducible refine Kd.C_drew ?_))); (case side4 => exact HC1_2.out); rintro e w' ⟨rfl, ⟨nd, rfl⟩⟩; (try first | exact ⟨rfl, _, World.drewN_drewN _ _ _⟩ | exact ⟨rfl, _, Eq.trans (World.drewN_drewN _ _ _) (congrArg (World.drewN _) (Nat.add_assoc _ _ _))⟩)) | (go_at_call 28; (with_reducible refine (budwoodref10_SameWords.calls k _ _ l0_3 _ _ l1_3 false _ ?side1 ?side2 ?side3 ?side4 A11.out).mono ?_); (case side1 => repeat (first | exact (Kd.C_below HR0_3.out (tg2 HB.out GE101.out GE102.out)) | (with_reducible refine Kd.C_alloc ?_ _) | (with_reducible refine Kd.C_drewN ?_ _) | (with_reducible refine Kd.C_drew ?_))); (case side2 => exact HC0_3.out); (case side3 => repeat (first | exact (Kd.C_below HR1_3.out (tg2 HB.out GE101.out GE102.out)) | (with_reducible refine Kd.C_alloc ?_ _) | (with_reducible refine Kd.C_drewN ?_ _) | (with_reducible refine Kd.C_drew ?_))); (case side4 => exact HC1_3.out); rintro e w' ⟨rfl, ⟨nd, rfl⟩⟩; (try first | exact ⟨rfl, _, World.drewN_drewN _ _ _⟩ | exact ⟨rfl, _, Eq.trans (World.drewN_drewN _ _ _) (congrArg (World.drewN _) (Nat.add_assoc _ _ _))⟩)))
      repeat (go_quiet (first | (go_at_call 49; (with_reducible refine (budwoodref10_SameTexts.calls k _ _ l0_1 _ _ l1_1 true _ ?side1 ?side2 ?side3 ?side4 A7.out).mono ?_); (case side1 => exact tc (Kd.C_below HR0_1.out HB.out)); (case side2 => exact HC0_1.out); (case side3 => exact tc (Kd.C_below HR1_1.out HB.out)); (case side4 => exact HC1_1.out); rintro e w' ⟨rfl, ⟨nd, rfl⟩⟩; (try first | exact ⟨rfl, _, World.drewN_drewN _ _ _⟩ | exact ⟨rfl, _, Eq.trans (World.drewN_drewN _ _ _) (congrArg (World.drewN _) (Nat.add_assoc _ _ _))⟩)) | (go_at_call 49; (with_reducible refine (budwoodref10_SameTexts.calls k _ _ l0_2 _ _ l1_2 true _ ?side1 ?side2 ?side3 ?side4 A9.out).mono ?_); (case side1 => repeat (first | exact (Kd.C_below HR0_2.out (tg2 HB.out GE101.out GE102.out)) | (with_reducible refine Kd.C_alloc ?_ _) | (with_reducible refine Kd.C_drewN ?_ _) | (with_reducible refine Kd.C_drew ?_))); (case side2 => exact HC0_2.out); (case side3 => repeat (first | exact (Kd.C_below HR1_2.out (tg2 HB.out GE101.out GE102.out)) | (with_reducible refine Kd.C_alloc ?_ _) | (with_reducible refine Kd.C_drewN ?_ _) | (with_reducible refine Kd.C_drew ?_))); (case side4 => exact HC1_2.out); rintro e w' ⟨rfl, ⟨nd, rfl⟩⟩; (try first | exact ⟨rfl, _, World.drewN_drewN _ _ _⟩ | exact ⟨rfl, _, Eq.trans (World.drewN_drewN _ _ _) (congrArg (World.drewN _) (Nat.add_assoc _ _ _))⟩)) | (go_at_call 28; (with_reducible refine (budwoodref10_SameWords.calls k _ _ l0_3 _ _ l1_3 false _ ?side1 ?side2 ?side3 ?side4 A11.out).mono ?_); (case side1 => repeat (first | exact (Kd.C_below HR0_3.out (tg2 HB.out GE101.out GE102.out)) | (with_reducible refine Kd.C_alloc ?_ _) | (with_reducible refine Kd.C_drewN ?_ _) | (with_reducible refine Kd.C_drew ?_))); (case side2 => exact HC0_3.out); (case side3 => repeat (first | exact (Kd.C_below HR1_3.out (tg2 HB.out GE101.out GE102.out)) | (with_reducible refine Kd.C_alloc ?_ _) | (with_reducible refine Kd.C_drewN ?_ _) | (with_reducible refine Kd.C_drew ?_))); (case side4 => exact HC1_3.out); rintro e w' ⟨rfl, ⟨nd, rfl⟩⟩; (try first | exact ⟨rfl, _, World.drewN_drewN _ _ _⟩ | exact ⟨rfl, _, Eq.trans (World.drewN_drewN _ _ _) (congrArg (World.drewN _) (Nat.add_assoc _ _ _))⟩))); try go_wp2_with (first | (go_at_call 49; (with_reducible refine (budwoodref10_SameTexts.calls k _ _ l0_1 _ _ l1_1 true _ ?side1 ?side2 ?side3 ?side4 A7.out).mono ?_); (case side1 => exact tc (Kd.C_below HR0_1.out HB.out)); (case side2 => exact HC0_1.out); (case side3 => exact tc (Kd.C_below HR1_1.out HB.out)); (case side4 => exact HC1_1.out); rintro e w' ⟨rfl, ⟨nd, rfl⟩⟩; (try first | exact ⟨rfl, _, World.drewN_drewN _ _ _⟩ | exact ⟨rfl, _, Eq.trans (World.drewN_drewN _ _ _) (congrArg (World.drewN _) (Nat.add_assoc _ _ _))⟩)) | (go_at_call 49; (with_reducible refine (budwoodref10_SameTexts.calls k _ _ l0_2 _ _ l1_2 true _ ?side1 ?side2 ?side3 ?side4 A9.out).mono ?_); (case side1 => repeat (first | exact (Kd.C_below HR0_2.out (tg2 HB.out GE101.out GE102.out)) | (with_reducible refine Kd.C_alloc ?_ _) | (with_reducible refine Kd.C_drewN ?_ _) | (with_reducible refine Kd.C_drew ?_))); (case side2 => exact HC0_2.out); (case side3 => repeat (first | exact (Kd.C_below HR1_2.out (tg2 HB.out GE101.out GE102.out)) | (with_reducible refine Kd.C_alloc ?_ _) | (with_reducible refine Kd.C_drewN ?_ _) | (with_reducible refine Kd.C_drew ?_))); (case side4 => exact HC1_2.out); rintro e w' ⟨rfl, ⟨nd, rfl⟩⟩; (try first | exact ⟨rfl, _, World.drewN_drewN _ _ _⟩ | exact ⟨rfl, _, Eq.trans (World.drewN_drewN _ _ _) (congrArg (World.drewN _) (Nat.add_assoc _ _ _))⟩)) | (go_at_call 28; (with_reducible refine (budwoodref10_SameWords.calls k _ _ l0_3 _ _ l1_3 false _ ?side1 ?side2 ?side3 ?side4 A11.out).mono ?_); (case side1 => repeat (first | exact (Kd.C_below HR0_3.out (tg2 HB.out GE101.out GE102.out)) | (with_reducible refine Kd.C_alloc ?_ _) | (with_reducible refine Kd.C_drewN ?_ _) | (with_reducible refine Kd.C_drew ?_))); (case side2 => exact HC0_3.out); (case side3 => repeat (first | exact (Kd.C_below HR1_3.out (tg2 HB.out GE101.out GE102.out)) | (with_reducible refine Kd.C_alloc ?_ _) | (with_reducible refine Kd.C_drewN ?_ _) | (with_reducible refine Kd.C_drew ?_))); (case side4 => exact HC1_3.out); rintro e w' ⟨rfl, ⟨nd, rfl⟩⟩; (try first | exact ⟨rfl, _, World.drewN_drewN _ _ _⟩ | exact ⟨rfl, _, Eq.trans (World.drewN_drewN _ _ _) (congrArg (World.drewN _) (Nat.add_assoc _ _ _))⟩))))
      go_meet
      case rel => exact ⟨_, (true), (by first | rfl | (simp; done) | (simp [*]; done)), H', ⟨by first | omega | exact Nat.le_refl _⟩, ⟨by (with_reducible repeat (first | refine blk_drewN ?_ _ | refine blk_drew ?_ | refine blk_alloc ?_ _)); exact BK101.out⟩, ⟨by (with_reducible repeat (first | refine blk_drewN ?_ _ | refine blk_drew ?_ | refine blk_alloc ?_ _)); exact BK102.out⟩, ⟨tg2 HB.out GE101.out GE102.out⟩⟩
    ·replace c10 := Bool.eq_false_iff.mpr c10
     subst c10
     have H1 : (budwoodref10_Same.j0 k true a0_0 l0_1 l0_2 l0_3 l0_4 l0_5 a1_0 l1_1 l1_2 l1_3 l1_4 l1_5) = some r := by rw [if_neg (show ¬ (false = true) by decide)] at H; exact H
     clear H
     have H := H1
     clear H1
     have H' := Aside0.mk H
     clear H
     have hnb24 := NB101_102.out
     have hnc24 := NB102_101.out
     have hcz25_0 := cz BK101.out 0 (.string a0_0)
     have hcz25_1 := cz BK101.out 1 (.slice A0_1 l0_1.length c0_1)
     have hcz25_2 := cz BK101.out 2 (.slice A0_2 l0_2.length c0_2)
     have hcz25_3 := cz BK101.out 3 (.slice A0_3 l0_3.length c0_3)
     have hcz25_4 := cz BK101.out 4 (.slice A0_4 l0_4.length c0_4)
     have hcz25_5 := cz BK101.out 5 (.slice A0_5 l0_5.length c0_5)
     have hfz25_0 := blk_frozen BK101.out 0
     have hfz25_1 := blk_frozen BK101.out 1
     have hfz25_2 := blk_frozen BK101.out 2
     have hfz25_3 := blk_frozen BK101.out 3
     have hfz25_4 := blk_frozen BK101.out 4
     have hfz25_5 := blk_frozen BK101.out 5
     have hcz26_0 := cz BK102.out 0 (.string a1_0)
     have hcz26_1 := cz BK102.out 1 (.slice A1_1 l1_1.length c1_1)
     have hcz26_2 := cz BK102.out 2 (.slice A1_2 l1_2.length c1_2)
     have hcz26_3 := cz BK102.out 3 (.slice A1_3 l1_3.length c1_3)
     have hcz26_4 := cz BK102.out 4 (.slice A1_4 l1_4.length c1_4)
     have hcz26_5 := cz BK102.out 5 (.slice A1_5 l1_5.length c1_5)
     have hfz26_0 := blk_frozen BK102.out 0
     have hfz26_1 := blk_frozen BK102.out 1
     have hfz26_2 := blk_frozen BK102.out 2
     have hfz26_3 := blk_frozen BK102.out 3
     have hfz26_4 := blk_frozen BK102.out 4
     have hfz26_5 := blk_frozen BK102.out 5
     go_wp2_with (first | (go_at_call 49; (with_reducible refine (budwoodref10_SameTexts.calls k _ _ l0_1 _ _ l1_1 true _ ?side1 ?side2 ?side3 ?side4 A7.out).mono ?_); (case side1 => exact tc (Kd.C_below HR0_1.out HB.out)); (case side2 => exact HC0_1.out); (case side3 => exact tc (Kd.C_below HR1_1.out HB.out)); (case side4 => exact HC1_1.out); rintro e w' ⟨rfl, ⟨nd, rfl⟩⟩; (try first | exact ⟨rfl, _, World.drewN_drewN _ _ _⟩ | exact ⟨rfl, _, Eq.trans (World.drewN_drewN _ _ _) (congrArg (World.drewN _) (Nat.add_assoc _ _ _))⟩)) | (go_at_call 49; (with_reducible refine (budwoodref10_SameTexts.calls k _ _ l0_2 _ _ l1_2 false _ ?side1 ?side2 ?side3 ?side4 A9.out).mono ?_); (case side1 => repeat (first | exact (Kd.C_below HR0_2.out (tg2 HB.out GE101.out GE102.out)) | (with_reducible refine Kd.C_alloc ?_ _) | (with_reducible refine Kd.C_drewN ?_ _) | (with_reducible refine Kd.C_drew ?_))); (case side2 => exact HC0_2.out); (case side3 => repeat (first | exact (Kd.C_below HR1_2.out (tg2 HB.out GE101.out GE102.out)) | (with_reducible refine Kd.C_alloc ?_ _) | (with_reducible refine Kd.C_drewN ?_ _) | (with_reducible refine Kd.C_drew ?_))); (case side4 => exact HC1_2.out); rintro e w' ⟨rfl, ⟨nd, rfl⟩⟩; (try first | exact ⟨rfl, _, World.drewN_drewN _ _ _⟩ | exact ⟨rfl, _, Eq.trans (World.drewN_drewN _ _ _) (congrArg (World.drewN _) (Nat.add_assoc _ _ _))⟩)))
     repeat (go_quiet (first | (go_at_call 49; (with_reducible refine (budwoodref10_SameTexts.calls k _ _ l0_1 _ _ l1_1 true _ ?side1 ?side2 ?side3 ?side4 A7.out).mono ?_); (case side1 => exact tc (Kd.C_below HR0_1.out HB.out)); (case side2 => exact HC0_1.out); (case side3 => exact tc (Kd.C_below HR1_1.out HB.out)); (case side4 => exact HC1_1.out); rintro e w' ⟨rfl, ⟨nd, rfl⟩⟩; (try first | exact ⟨rfl, _, World.drewN_drewN _ _ _⟩ | exact ⟨rfl, _, Eq.trans (World.drewN_drewN _ _ _) (congrArg (World.drewN _) (Nat.add_assoc _ _ _))⟩)) | (go_at_call 49; (with_reducible refine (budwoodref10_SameTexts.calls k _ _ l0_2 _ _ l1_2 false _ ?side1 ?side2 ?side3 ?side4 A9.out).mono ?_); (case side1 => repeat (first | exact (Kd.C_below HR0_2.out (tg2 HB.out GE101.out GE102.out)) | (with_reducible refine Kd.C_alloc ?_ _) | (with_reducible refine Kd.C_drewN ?_ _) | (with_reducible refine Kd.C_drew ?_))); (case side2 => exact HC0_2.out); (case side3 => repeat (first | exact (Kd.C_below HR1_2.out (tg2 HB.out GE101.out GE102.out)) | (with_reducible refine Kd.C_alloc ?_ _) | (with_reducible refine Kd.C_drewN ?_ _) | (with_reducible refine Kd.C_drew ?_))); (case side4 => exact HC1_2.out); rintro e w' ⟨rfl, ⟨nd, rfl⟩⟩; (try first | exact ⟨rfl, _, World.drewN_drewN _ _ _⟩ | exact ⟨rfl, _, Eq.trans (World.drewN_drewN _ _ _) (congrArg (World.drewN _) (Nat.add_assoc _ _ _))⟩))); try go_wp2_with (first | (go_at_call 49; (with_reducible refine (budwoodref10_SameTexts.calls k _ _ l0_1 _ _ l1_1 true _ ?side1 ?side2 ?side3 ?side4 A7.out).mono ?_); (case side1 => exact tc (Kd.C_below HR0_1.out HB.out)); (case side2 => exact HC0_1.out); (case side3 => exact tc (Kd.C_below HR1_1.out HB.out)); (case side4 => exact HC1_1.out); rintro e w' ⟨rfl, ⟨nd, rfl⟩⟩; (try first | exact ⟨rfl, _, World.drewN_drewN _ _ _⟩ | exact ⟨rfl, _, Eq.trans (World.drewN_drewN _ _ _) (congrArg (World.drewN _) (Nat.add_assoc _ _ _))⟩)) | (go_at_call 49; (with_reducible refine (budwoodref10_SameTexts.calls k _ _ l0_2 _ _ l1_2 false _ ?side1 ?side2 ?side3 ?side4 A9.out).mono ?_); (case side1 => repeat (first | exact (Kd.C_below HR0_2.out (tg2 HB.out GE101.out GE102.out)) | (with_reducible refine Kd.C_alloc ?_ _) | (with_reducible refine Kd.C_drewN ?_ _) | (with_reducible refine Kd.C_drew ?_))); (case side2 => exact HC0_2.out); (case side3 => repeat (first | exact (Kd.C_below HR1_2.out (tg2 HB.out GE101.out GE102.out)) | (with_reducible refine Kd.C_alloc ?_ _) | (with_reducible refine Kd.C_drewN ?_ _) | (with_reducible refine Kd.C_drew ?_))); (case side4 => exact HC1_2.out); rintro e w' ⟨rfl, ⟨nd, rfl⟩⟩; (try first | exact ⟨rfl, _, World.drewN_drewN _ _ _⟩ | exact ⟨rfl, _, Eq.trans (World.drewN_drewN _ _ _) (congrArg (World.drewN _) (Nat.add_assoc _ _ _))⟩))))
     go_meet
     case rel => exact ⟨_, (true), (by first | rfl | (simp; done) | (simp [*]; done)), H', ⟨by first | omega | exact Nat.le_refl _⟩, ⟨by (with_reducible repeat (first | refine blk_drewN ?_ _ | refine blk_drew ?_ | refine blk_alloc ?_ _)); exact BK101.out⟩, ⟨by (with_reducible repeat (first | refine blk_drewN ?_ _ | refine blk_drew ?_ | refine blk_alloc ?_ _)); exact BK102.out⟩, ⟨tg2 HB.out GE101.out GE102.out⟩⟩
   ·replace c8 := Bool.eq_false_iff.mpr c8
    subst c8
    have H1 : (budwoodref10_Same.j0 k true a0_0 l0_1 l0_2 l0_3 l0_4 l0_5 a1_0 l1_1 l1_2 l1_3 l1_4 l1_5) = some r := by rw [if_neg (show ¬ (false = true) by decide)] at H; exact H
    clear H
    have H := H1
    clear H1
    have H' := Aside0.mk H
    clear H
    have hnb27 := NB101_102.out
    have hnc27 := NB102_101.out
    have hcz28_0 := cz BK101.out 0 (.string a0_0)
    have hcz28_1 := cz BK101.out 1 (.slice A0_1 l0_1.length c0_1)
    have hcz28_2 := cz BK101.out 2 (.slice A0_2 l0_2.length c0_2)
    have hcz28_3 := cz BK101.out 3 (.slice A0_3 l0_3.length c0_3)
    have hcz28_4 := cz BK101.out 4 (.slice A0_4 l0_4.length c0_4)
    have hcz28_5 := cz BK101.out 5 (.slice A0_5 l0_5.length c0_5)
    have hfz28_0 := blk_frozen BK101.out 0
    have hfz28_1 := blk_frozen BK101.out 1
    have hfz28_2 := blk_frozen BK101.out 2
    have hfz28_3 := blk_frozen BK101.out 3
    have hfz28_4 := blk_frozen BK101.out 4
    have hfz28_5 := blk_frozen BK101.out 5
    have hcz29_0 := cz BK102.out 0 (.string a1_0)
    have hcz29_1 := cz BK102.out 1 (.slice A1_1 l1_1.length c1_1)
    have hcz29_2 := cz BK102.out 2 (.slice A1_2 l1_2.length c1_2)
    have hcz29_3 := cz BK102.out 3 (.slice A1_3 l1_3.length c1_3)
    have hcz29_4 := cz BK102.out 4 (.slice A1_4 l1_4.length c1_4)
    have hcz29_5 := cz BK102.out 5 (.slice A1_5 l1_5.length c1_5)
    have hfz29_0 := blk_frozen BK102.out 0
    have hfz29_1 := blk_frozen BK102.out 1
    have hfz29_2 := blk_frozen BK102.out 2
    have hfz29_3 := blk_frozen BK102.out 3
    have hfz29_4 := blk_frozen BK102.out 4
    have hfz29_5 := blk_frozen BK102.out 5
    go_wp2_with (first | (go_at_call 49; (with_reducible refine (budwoodref10_SameTexts.calls k _ _ l0_1 _ _ l1_1 false _ ?side1 ?side2 ?side3 ?side4 A7.out).mono ?_); (case side1 => exact tc (Kd.C_below HR0_1.out HB.out)); (case side2 => exact HC0_1.out); (case side3 => exact tc (Kd.C_below HR1_1.out HB.out)); (case side4 => exact HC1_1.out); rintro e w' ⟨rfl, ⟨nd, rfl⟩⟩; (try first | exact ⟨rfl, _, World.drewN_drewN _ _ _⟩ | exact ⟨rfl, _, Eq.trans (World.drewN_drewN _ _ _) (congrArg (World.drewN _) (Nat.add_assoc _ _ _))⟩)))
    repeat (go_quiet (first | (go_at_call 49; (with_reducible refine (budwoodref10_SameTexts.calls k _ _ l0_1 _ _ l1_1 false _ ?side1 ?side2 ?side3 ?side4 A7.out).mono ?_); (case side1 => exact tc (Kd.C_below HR0_1.out HB.out)); (case side2 => exact HC0_1.out); (case side3 => exact tc (Kd.C_below HR1_1.out HB.out)); (case side4 => exact HC1_1.out); rintro e w' ⟨rfl, ⟨nd, rfl⟩⟩; (try first | exact ⟨rfl, _, World.drewN_drewN _ _ _⟩ | exact ⟨rfl, _, Eq.trans (World.drewN_drewN _ _ _) (congrArg (World.drewN _) (Nat.add_assoc _ _ _))⟩))); try go_wp2_with (first | (go_at_call 49; (with_reducible refine (budwoodref10_SameTexts.calls k _ _ l0_1 _ _ l1_1 false _ ?side1 ?side2 ?side3 ?side4 A7.out).mono ?_); (case side1 => exact tc (Kd.C_below HR0_1.out HB.out)); (case side2 => exact HC0_1.out); (case side3 => exact tc (Kd.C_below HR1_1.out HB.out)); (case side4 => exact HC1_1.out); rintro e w' ⟨rfl, ⟨nd, rfl⟩⟩; (try first | exact ⟨rfl, _, World.drewN_drewN _ _ _⟩ | exact ⟨rfl, _, Eq.trans (World.drewN_drewN _ _ _) (congrArg (World.drewN _) (Nat.add_assoc _ _ _))⟩))))
    go_meet
    case rel => exact ⟨_, (true), (by first | rfl | (simp; done) | (simp [*]; done)), H', ⟨by first | omega | exact Nat.le_refl _⟩, ⟨by (with_reducible repeat (first | refine blk_drewN ?_ _ | refine blk_drew ?_ | refine blk_alloc ?_ _)); exact BK101.out⟩, ⟨by (with_reducible repeat (first | refine blk_drewN ?_ _ | refine blk_drew ?_ | refine blk_alloc ?_ _)); exact BK102.out⟩, ⟨tg2 HB.out GE101.out GE102.out⟩⟩
  ·rw [if_neg c6] at H
   have c6b0 : (a0_0.toList == a1_0.toList) = false := beq_eq_false_iff_ne.mpr c6
   have c6b1 : (a0_0.toList != a1_0.toList) = true := bne_iff_ne.mpr c6
   (first | rw [c6b0] | (simp only [i64_w, i32_w]; rw [c6b0]) | skip)
   have H' := Aside0.mk H
   clear H
   have hnb30 := NB101_102.out
   have hnc30 := NB102_101.out
   have hcz31_0 := cz BK101.out 0 (.string a0_0)
   have hcz31_1 := cz BK101.out 1 (.slice A0_1 l0_1.length c0_1)
   have hcz31_2 := cz BK101.out 2 (.slice A0_2 l0_2.length c0_2)
   have hcz31_3 := cz BK101.out 3 (.slice A0_3 l0_3.length c0_3)
   have hcz31_4 := cz BK101.out 4 (.slice A0_4 l0_4.length c0_4)
   have hcz31_5 := cz BK101.out 5 (.slice A0_5 l0_5.length c0_5)
   have hfz31_0 := blk_frozen BK101.out 0
   have hfz31_1 := blk_frozen BK101.out 1
   have hfz31_2 := blk_frozen BK101.out 2
   have hfz31_3 := blk_frozen BK101.out 3
   have hfz31_4 := blk_frozen BK101.out 4
   have hfz31_5 := blk_frozen BK101.out 5
   have hcz32_0 := cz BK102.out 0 (.string a1_0)
   have hcz32_1 := cz BK102.out 1 (.slice A1_1 l1_1.length c1_1)
   have hcz32_2 := cz BK102.out 2 (.slice A1_2 l1_2.length c1_2)
   have hcz32_3 := cz BK102.out 3 (.slice A1_3 l1_3.length c1_3)
   have hcz32_4 := cz BK102.out 4 (.slice A1_4 l1_4.length c1_4)
   have hcz32_5 := cz BK102.out 5 (.slice A1_5 l1_5.length c1_5)
   have hfz32_0 := blk_frozen BK102.out 0
   have hfz32_1 := blk_frozen BK102.out 1
   have hfz32_2 := blk_frozen BK102.out 2
   have hfz32_3 := blk_frozen BK102.out 3
   have hfz32_4 := blk_frozen BK102.out 4
   have hfz32_5 := blk_frozen BK102.out 5
   go_wp2
   repeat (go_quiet (fail); try go_wp2)
   go_meet
   case rel => exact ⟨_, (true), (by first | rfl | (simp; done) | (simp [*]; done)), H', ⟨by first | omega | exact Nat.le_refl _⟩, ⟨by (with_reducible repeat (first | refine blk_drewN ?_ _ | refine blk_drew ?_ | refine blk_alloc ?_ _)); exact BK101.out⟩, ⟨by (with_reducible repeat (first | refine blk_drewN ?_ _ | refine blk_drew ?_ | refine blk_alloc ?_ _)); exact BK102.out⟩, ⟨tg2 HB.out GE101.out GE102.out⟩⟩
 case rest =>
  clear HC3
  try clear c1
  try clear c2
  try clear p2
  try clear c3
  try clear c6
  try clear c6b0
  try clear c6b1
  try clear c8
  try clear c10
  try clear c12
  try clear c14
  try clear c15
  try clear c18
  try clear c20
  try clear c21
  try clear c24
  try clear c27
  try clear c30
  try clear hcz16_0
  try clear hcz16_1
  try clear hcz16_2
  try clear hcz16_3
  try clear hcz16_4
  try clear hcz16_5
  try clear hcz17_0
  try clear hcz17_1
  try clear hcz17_2
  try clear hcz17_3
  try clear hcz17_4
  try clear hcz17_5
  try clear hcz19_0
  try clear hcz19_1
  try clear hcz19_2
  try clear hcz19_3
  try clear hcz19_4
  try clear hcz19_5
  try clear hcz20_0
  try clear hcz20_1
  try clear hcz20_2
  try clear hcz20_3
  try clear hcz20_4
  try clear hcz20_5
  try clear hcz22_0
  try clear hcz22_1
  try clear hcz22_2
  try clear hcz22_3
  try clear hcz22_4
  try clear hcz22_5
  try clear hcz23_0
  try clear hcz23_1
  try clear hcz23_2
  try clear hcz23_3
  try clear hcz23_4
  try clear hcz23_5
  try clear hcz25_0
  try clear hcz25_1
  try clear hcz25_2
  try clear hcz25_3
  try clear hcz25_4
  try clear hcz25_5
  try clear hcz26_0
  try clear hcz26_1
  try clear hcz26_2
  try clear hcz26_3
  try clear hcz26_4
  try clear hcz26_5
  try clear hcz28_0
  try clear hcz28_1
  try clear hcz28_2
  try clear hcz28_3
  try clear hcz28_4
  try clear hcz28_5
  try clear hcz29_0
  try clear hcz29_1
  try clear hcz29_2
  try clear hcz29_3
  try clear hcz29_4
  try clear hcz29_5
  try clear hcz31_0
  try clear hcz31_1
  try clear hcz31_2
  try clear hcz31_3
  try clear hcz31_4
  try clear hcz31_5
  try clear hcz32_0
  try clear hcz32_1
  try clear hcz32_2
  try clear hcz32_3
  try clear hcz32_4
  try clear hcz32_5
  try clear hfz16_0
  try clear hfz16_1
  try clear hfz16_2
  try clear hfz16_3
  try clear hfz16_4
  try clear hfz16_5
  try clear hfz17_0
  try clear hfz17_1
  try clear hfz17_2
  try clear hfz17_3
  try clear hfz17_4
  try clear hfz17_5
  try clear hfz19_0
  try clear hfz19_1
  try clear hfz19_2
  try clear hfz19_3
  try clear hfz19_4
  try clear hfz19_5
  try clear hfz20_0
  try clear hfz20_1
  try clear hfz20_2
  try clear hfz20_3
  try clear hfz20_4
  try clear hfz20_5
  try clear hfz22_0
  try clear hfz22_1
  try clear hfz22_2
  try clear hfz22_3
  try clear hfz22_4
  try clear hfz22_5
  try clear hfz23_0
  try clear hfz23_1
  try clear hfz23_2
  try clear hfz23_3
  try clear hfz23_4
  try clear hfz23_5
  try clear hfz25_0
  try clear hfz25_1
  try clear hfz25_2
  try clear hfz25_3
  try clear hfz25_4
  try clear hfz25_5
  try clear hfz26_0
  try clear hfz26_1
  try clear hfz26_2
  try clear hfz26_3
  try clear hfz26_4
  try clear hfz26_5
  try clear hfz28_0
  try clear hfz28_1
  try clear hfz28_2
  try clear hfz28_3
  try clear hfz28_4
  try clear hfz28_5
  try clear hfz29_0
  try clear hfz29_1
  try clear hfz29_2
  try clear hfz29_3
  try clear hfz29_4
  try clear hfz29_5
  try clear hfz31_0
  try clear hfz31_1
  try clear hfz31_2
  try clear hfz31_3
  try clear hfz31_4
  try clear hfz31_5
  try clear hfz32_0
  try clear hfz32_1
  try clear hfz32_2
  try clear hfz32_3
  try clear hfz32_4
  try clear hfz32_5
  obtain ⟨kq, x51_2, rfl, HA, HJ2, BK101, BK102, HB⟩ := hcut
  cases kq with
  | zero => exact absurd HA.out (by simp [budwoodref10_Same.j0])
  | succ kj2 =>
   have H := HA.out
   clear HA
   simp only [budwoodref10_Same.j0] at H
   by_cases c33 : x51_2 = true
   ·subst c33
    have H1 : (some false) = some r := by rw [if_pos rfl] at H; exact H
    clear H
    have H := H1
    clear H1
    obtain rfl := Option.some.inj H
    go_wp2
    repeat (go_quiet (fail); try go_wp2)
    go_ret
    exact ⟨by first | rfl | (simp [errW_none, errW_some] <;> rfl) | (simp [*, errW_none, errW_some] <;> rfl), tg2 HB.out GE101.out GE102.out⟩
   ·replace c33 := Bool.eq_false_iff.mpr c33
    subst c33
    have H1 : (budwoodref10_Same.l0 kj2 0 a0_0 l0_1 l0_2 l0_3 l0_4 l0_5 a1_0 l1_1 l1_2 l1_3 l1_4 l1_5) = some r := by rw [if_neg (show ¬ (false = true) by decide)] at H; exact H
    clear H
    have H := H1
    clear H1
    have H' := Aside0.mk H
    clear H
    go_wp2
    repeat (go_quiet (fail); try go_wp2)
    go_loopg [5] kj2 (fun kq v5 w' => ∃ (x5_2 : Int), v5 = .int .i64 x5_2 ∧ Aside0 (budwoodref10_Same.l0 kq x5_2 a0_0 l0_1 l0_2 l0_3 l0_4 l0_5 a1_0 l1_1 l1_2 l1_3 l1_4 l1_5 = some r) ∧ Aside0 (kq ≤ kj2) ∧ Aside0 (w'.heap[gb101]? = some (.cells #[.string a0_0, (.slice A0_1 l0_1.length c0_1), (.slice A0_2 l0_2.length c0_2), (.slice A0_3 l0_3.length c0_3), (.slice A0_4 l0_4.length c0_4), (.slice A0_5 l0_5.length c0_5)] 26 (0, 0))) ∧ Aside0 (w'.heap[gb102]? = some (.cells #[.string a1_0, (.slice A1_1 l1_1.length c1_1), (.slice A1_2 l1_2.length c1_2), (.slice A1_3 l1_3.length c1_3), (.slice A1_4 l1_4.length c1_4), (.slice A1_5 l1_5.length c1_5)] 26 (0, 0))) ∧ Aside0 (Below w.heap.size w w'))
    case atStart => exact ⟨(0), (by first | rfl | (simp; done) | (simp [*]; done)), H', ⟨Nat.le_refl _⟩, ⟨by (with_reducible repeat (first | refine blk_drewN ?_ _ | refine blk_drew ?_ | refine blk_alloc ?_ _)); exact BK101.out⟩, ⟨by (with_reducible repeat (first | refine blk_drewN ?_ _ | refine blk_drew ?_ | refine blk_alloc ?_ _)); exact BK102.out⟩, ⟨tg2 HB.out GE101.out GE102.out⟩⟩
    case round =>
     clear H'
     try clear c1
     try clear c2
     try clear p2
     try clear c3
     try clear c6
     try clear c6b0
     try clear c6b1
     try clear c8
     try clear c10
     try clear c12
     try clear c14
     try clear c15
     try clear c18
     try clear c20
     try clear c21
     try clear c24
     try clear c27
     try clear c30
     try clear c33
     try clear hcz16_0
     try clear hcz16_1
     try clear hcz16_2
     try clear hcz16_3
     try clear hcz16_4
     try clear hcz16_5
     try clear hcz17_0
     try clear hcz17_1
     try clear hcz17_2
     try clear hcz17_3
     try clear hcz17_4
     try clear hcz17_5
     try clear hcz19_0
     try clear hcz19_1
     try clear hcz19_2
     try clear hcz19_3
     try clear hcz19_4
     try clear hcz19_5
     try clear hcz20_0
     try clear hcz20_1
     try clear hcz20_2
     try clear hcz20_3
     try clear hcz20_4
     try clear hcz20_5
     try clear hcz22_0
     try clear hcz22_1
     try clear hcz22_2
     try clear hcz22_3
     try clear hcz22_4
     try clear hcz22_5
     try clear hcz23_0
     try clear hcz23_1
     try clear hcz23_2
     try clear hcz23_3
     try clear hcz23_4
     try clear hcz23_5
     try clear hcz25_0
     try clear hcz25_1
     try clear hcz25_2
     try clear hcz25_3
     try clear hcz25_4
     try clear hcz25_5
     try clear hcz26_0
     try clear hcz26_1
     try clear hcz26_2
     try clear hcz26_3
     try clear hcz26_4
     try clear hcz26_5
     try clear hcz28_0
     try clear hcz28_1
     try clear hcz28_2
     try clear hcz28_3
     try clear hcz28_4
     try clear hcz28_5
     try clear hcz29_0
     try clear hcz29_1
     try clear hcz29_2
     try clear hcz29_3
     try clear hcz29_4
     try clear hcz29_5
     try clear hcz31_0
     try clear hcz31_1
     try clear hcz31_2
     try clear hcz31_3
     try clear hcz31_4
     try clear hcz31_5
     try clear hcz32_0
     try clear hcz32_1
     try clear hcz32_2
     try clear hcz32_3
     try clear hcz32_4
     try clear hcz32_5
     try clear hfz16_0
     try clear hfz16_1
     try clear hfz16_2
     try clear hfz16_3
     try clear hfz16_4
     try clear hfz16_5
     try clear hfz17_0
     try clear hfz17_1
     try clear hfz17_2
     try clear hfz17_3
     try clear hfz17_4
     try clear hfz17_5
     try clear hfz19_0
     try clear hfz19_1
     try clear hfz19_2
     try clear hfz19_3
     try clear hfz19_4
     try clear hfz19_5
     try clear hfz20_0
     try clear hfz20_1
     try clear hfz20_2
     try clear hfz20_3
     try clear hfz20_4
     try clear hfz20_5
     try clear hfz22_0
     try clear hfz22_1
     try clear hfz22_2
     try clear hfz22_3
     try clear hfz22_4
     try clear hfz22_5
     try clear hfz23_0
     try clear hfz23_1
     try clear hfz23_2
     try clear hfz23_3
     try clear hfz23_4
     try clear hfz23_5
     try clear hfz25_0
     try clear hfz25_1
     try clear hfz25_2
     try clear hfz25_3
     try clear hfz25_4
     try clear hfz25_5
     try clear hfz26_0
     try clear hfz26_1
     try clear hfz26_2
     try clear hfz26_3
     try clear hfz26_4
     try clear hfz26_5
     try clear hfz28_0
     try clear hfz28_1
     try clear hfz28_2
     try clear hfz28_3
     try clear hfz28_4
     try clear hfz28_5
     try clear hfz29_0
     try clear hfz29_1
     try clear hfz29_2
     try clear hfz29_3
     try clear hfz29_4
     try clear hfz29_5
     try clear hfz31_0
     try clear hfz31_1
     try clear hfz31_2
     try clear hfz31_3
     try clear hfz31_4
     try clear hfz31_5
     try clear hfz32_0
     try clear hfz32_1
     try clear hfz32_2
     try clear hfz32_3
     try clear hfz32_4
     try clear hfz32_5
     try clear p2
     obtain ⟨x5_2, rfl, HA, HK2, BK101, BK102, HB⟩ := hrel
     cases gk with
     | zero => exact absurd HA.out (by simp [budwoodref10_Same.l0])
     | succ k2 =>
      have H := HA.out
      clear HA
      simp only [budwoodref10_Same.l0] at H
      by_cases c34 : x5_2 < (l0_5.length : Int)
      ·rw [if_pos c34] at H
       have c34b0 : decide (x5_2 < (l0_5.length : Int)) = true := decide_eq_true c34
       clear c34
       by_cases c35 : 0 ≤ x5_2
       ·rw [if_pos c35] at H
        have c35b0 : decide (0 ≤ x5_2) = true := decide_eq_true c35
        clear c35
        by_cases c36 : x5_2 < (l1_5.length : Int)
        ·rw [if_pos c36] at H
         have c36b0 : decide (x5_2 < (l1_5.length : Int)) = true := decide_eq_true c36
         clear c36
         by_cases c37 : (!(((rd_T43 l0_5 x5_2).f0) == ((rd_T43 l1_5 x5_2).f0)) || (!(((rd_T43 l0_5 x5_2).f1) == ((rd_T43 l1_5 x5_2).f1)) || (!(((rd_T43 l0_5 x5_2).f2) == ((rd_T43 l1_5 x5_2).f2))))) = true
         ·rw [if_pos c37] at H
          have c37b0 : (!(((rd_T43 l0_5 x5_2).f0) == ((rd_T43 l1_5 x5_2).f0)) || (!(((rd_T43 l0_5 x5_2).f1) == ((rd_T43 l1_5 x5_2).f1)) || (!(((rd_T43 l0_5 x5_2).f2) == ((rd_T43 l1_5 x5_2).f2))))) = true := c37
          clear c37
          obtain rfl := Option.some.inj H
          have hnb38 := NB101_102.out
          have hnc38 := NB102_101.out
          have hcz39_0 := cz BK101.out 0 (.string a0_0)
          have hcz39_1 := cz BK101.out 1 (.slice A0_1 l0_1.length c0_1)
          have hcz39_2 := cz BK101.out 2 (.slice A0_2 l0_2.length c0_2)
          have hcz39_3 := cz BK101.out 3 (.slice A0_3 l0_3.length c0_3)
          have hcz39_4 := cz BK101.out 4 (.slice A0_4 l0_4.length c0_4)
          have hcz39_5 := cz BK101.out 5 (.slice A0_5 l0_5.length c0_5)
          have hfz39_0 := blk_frozen BK101.out 0
          have hfz39_1 := blk_frozen BK101.out 1
          have hfz39_2 := blk_frozen BK101.out 2
          have hfz39_3 := blk_frozen BK101.out 3
          have hfz39_4 := blk_frozen BK101.out 4
          have hfz39_5 := blk_frozen BK101.out 5
          have p107 : 0 ≤ (x5_2 : Int) := of_decide_eq_true (by first | (with_reducible assumption) | assumption)
          have q107 : x5_2 < (l0_5.length : Int) := of_decide_eq_true (by first | (with_reducible assumption) | assumption)
          obtain ⟨ad107, e107, hx107_0, hx107_1, hx107_2⟩ := at_T43 HR0_5.out x5_2 p107 q107
          cases e107
          replace hx107_0 := (HB.out.cell (World.block_lt_of_cell? w _ hx107_0)).trans hx107_0
          replace hx107_1 := (HB.out.cell (World.block_lt_of_cell? w _ hx107_1)).trans hx107_1
          replace hx107_2 := (HB.out.cell (World.block_lt_of_cell? w _ hx107_2)).trans hx107_2
          replace p107 := eq_true p107
          replace q107 := eq_true q107
          have hcz40_0 := cz BK102.out 0 (.string a1_0)
          have hcz40_1 := cz BK102.out 1 (.slice A1_1 l1_1.length c1_1)
          have hcz40_2 := cz BK102.out 2 (.slice A1_2 l1_2.length c1_2)
          have hcz40_3 := cz BK102.out 3 (.slice A1_3 l1_3.length c1_3)
          have hcz40_4 := cz BK102.out 4 (.slice A1_4 l1_4.length c1_4)
          have hcz40_5 := cz BK102.out 5 (.slice A1_5 l1_5.length c1_5)
          have hfz40_0 := blk_frozen BK102.out 0
          have hfz40_1 := blk_frozen BK102.out 1
          have hfz40_2 := blk_frozen BK102.out 2
          have hfz40_3 := blk_frozen BK102.out 3
          have hfz40_4 := blk_frozen BK102.out 4
          have hfz40_5 := blk_frozen BK102.out 5
          have p108 : 0 ≤ (x5_2 : Int) := of_decide_eq_true (by first | (with_reducible assumption) | assumption)
          have q108 : x5_2 < (l1_5.length : Int) := of_decide_eq_true (by first | (with_reducible assumption) | assumption)
          obtain ⟨ad108, e108, hx108_0, hx108_1, hx108_2⟩ := at_T43 HR1_5.out x5_2 p108 q108
          cases e108
          replace hx108_0 := (HB.out.cell (World.block_lt_of_cell? w _ hx108_0)).trans hx108_0
          replace hx108_1 := (HB.out.cell (World.block_lt_of_cell? w _ hx108_1)).trans hx108_1
          replace hx108_2 := (HB.out.cell (World.block_lt_of_cell? w _ hx108_2)).trans hx108_2
          replace p108 := eq_true p108
          replace q108 := eq_true q108
          go_wp2
          repeat (go_quiet (fail); try go_wp2)
          go_ret
          exact ⟨by first | rfl | (simp [errW_none, errW_some] <;> rfl) | (simp [*, errW_none, errW_some] <;> rfl), tg2 HB.out GE101.out GE102.out⟩
         ·rw [if_neg c37] at H
          have c37b0 : (!(((rd_T43 l0_5 x5_2).f0) == ((rd_T43 l1_5 x5_2).f0)) || (!(((rd_T43 l0_5 x5_2).f1) == ((rd_T43 l1_5 x5_2).f1)) || (!(((rd_T43 l0_5 x5_2).f2) == ((rd_T43 l1_5 x5_2).f2))))) = false := by simpa using c37
          clear c37
          have H' := Aside0.mk H
          clear H
          have hnb41 := NB101_102.out
          have hnc41 := NB102_101.out
          have hcz42_0 := cz BK101.out 0 (.string a0_0)
          have hcz42_1 := cz BK101.out 1 (.slice A0_1 l0_1.length c0_1)
          have hcz42_2 := cz BK101.out 2 (.slice A0_2 l0_2.length c0_2)
          have hcz42_3 := cz BK101.out 3 (.slice A0_3 l0_3.length c0_3)
          have hcz42_4 := cz BK101.out 4 (.slice A0_4 l0_4.length c0_4)
          have hcz42_5 := cz BK101.out 5 (.slice A0_5 l0_5.length c0_5)
          have hfz42_0 := blk_frozen BK101.out 0
          have hfz42_1 := blk_frozen BK101.out 1
          have hfz42_2 := blk_frozen BK101.out 2
          have hfz42_3 := blk_frozen BK101.out 3
          have hfz42_4 := blk_frozen BK101.out 4
          have hfz42_5 := blk_frozen BK101.out 5
          have p107 : 0 ≤ (x5_2 : Int) := of_decide_eq_true (by first | (with_reducible assumption) | assumption)
          have q107 : x5_2 < (l0_5.length : Int) := of_decide_eq_true (by first | (with_reducible assumption) | assumption)
          obtain ⟨ad107, e107, hx107_0, hx107_1, hx107_2⟩ := at_T43 HR0_5.out x5_2 p107 q107
          cases e107
          replace hx107_0 := (HB.out.cell (World.block_lt_of_cell? w _ hx107_0)).trans hx107_0
          replace hx107_1 := (HB.out.cell (World.block_lt_of_cell? w _ hx107_1)).trans hx107_1
          replace hx107_2 := (HB.out.cell (World.block_lt_of_cell? w _ hx107_2)).trans hx107_2
          replace p107 := eq_true p107
          replace q107 := eq_true q107
          have hcz43_0 := cz BK102.out 0 (.string a1_0)
          have hcz43_1 := cz BK102.out 1 (.slice A1_1 l1_1.length c1_1)
          have hcz43_2 := cz BK102.out 2 (.slice A1_2 l1_2.length c1_2)
          have hcz43_3 := cz BK102.out 3 (.slice A1_3 l1_3.length c1_3)
          have hcz43_4 := cz BK102.out 4 (.slice A1_4 l1_4.length c1_4)
          have hcz43_5 := cz BK102.out 5 (.slice A1_5 l1_5.length c1_5)
          have hfz43_0 := blk_frozen BK102.out 0
          have hfz43_1 := blk_frozen BK102.out 1
          have hfz43_2 := blk_frozen BK102.out 2
          have hfz43_3 := blk_frozen BK102.out 3
          have hfz43_4 := blk_frozen BK102.out 4
          have hfz43_5 := blk_frozen BK102.out 5
          have p108 : 0 ≤ (x5_2 : Int) := of_decide_eq_true (by first | (with_reducible assumption) | assumption)
          have q108 : x5_2 < (l1_5.length : Int) := of_decide_eq_true (by first | (with_reducible assumption) | assumption)
          obtain ⟨ad108, e108, hx108_0, hx108_1, hx108_2⟩ := at_T43 HR1_5.out x5_2 p108 q108
          cases e108
          replace hx108_0 := (HB.out.cell (World.block_lt_of_cell? w _ hx108_0)).trans hx108_0
          replace hx108_1 := (HB.out.cell (World.block_lt_of_cell? w _ hx108_1)).trans hx108_1
          replace hx108_2 := (HB.out.cell (World.block_lt_of_cell? w _ hx108_2)).trans hx108_2
          replace p108 := eq_true p108
          replace q108 := eq_true q108
          go_wp2
          repeat (go_quiet (fail); try go_wp2)
          go_roundg k2
          case measure => have := HJ2.out; have := HK2.out; omega
          case rel => exact ⟨(wrap64 (x5_2 + 1)), (by first | rfl | (simp; done) | (simp [*]; done)), H', ⟨by have := HJ2.out; have := HK2.out; omega⟩, ⟨by (with_reducible repeat (first | refine blk_drewN ?_ _ | refine blk_drew ?_ | refine blk_alloc ?_ _)); exact BK101.out⟩, ⟨by (with_reducible repeat (first | refine blk_drewN ?_ _ | refine blk_drew ?_ | refine blk_alloc ?_ _)); exact BK102.out⟩, ⟨tg2 HB.out GE101.out GE102.out⟩⟩
        ·rw [if_neg c36] at H
         exact absurd H (by simp)
       ·rw [if_neg c35] at H
        exact absurd H (by simp)
      ·rw [if_neg c34] at H
       have c34b0 : decide (x5_2 < (l0_5.length : Int)) = false := decide_eq_false c34
       clear c34
       obtain rfl := Option.some.inj H
       have hnb44 := NB101_102.out
       have hnc44 := NB102_101.out
       have hcz45_0 := cz BK101.out 0 (.string a0_0)
       have hcz45_1 := cz BK101.out 1 (.slice A0_1 l0_1.length c0_1)
       have hcz45_2 := cz BK101.out 2 (.slice A0_2 l0_2.length c0_2)
       have hcz45_3 := cz BK101.out 3 (.slice A0_3 l0_3.length c0_3)
       have hcz45_4 := cz BK101.out 4 (.slice A0_4 l0_4.length c0_4)
       have hcz45_5 := cz BK101.out 5 (.slice A0_5 l0_5.length c0_5)
       have hfz45_0 := blk_frozen BK101.out 0
       have hfz45_1 := blk_frozen BK101.out 1
       have hfz45_2 := blk_frozen BK101.out 2
       have hfz45_3 := blk_frozen BK101.out 3
       have hfz45_4 := blk_frozen BK101.out 4
       have hfz45_5 := blk_frozen BK101.out 5
       go_wp2
       repeat (go_quiet (fail); try go_wp2)
       go_ret
       exact ⟨by first | rfl | (simp [errW_none, errW_some] <;> rfl) | (simp [*, errW_none, errW_some] <;> rfl), tg2 HB.out GE101.out GE102.out⟩

end Go.Proofs.YtiphindialkmnaaDoor.X
end
