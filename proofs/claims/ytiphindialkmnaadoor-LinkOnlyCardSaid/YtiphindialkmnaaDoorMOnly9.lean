/- Texts that the proof rests on, part 9. -/
import Derived.Laws.RangeAny
import Derived.Lib.OthersKept
import Derived.Test.YtiphindialkmnaaDoorMOnly8
section
namespace Go.Proofs.YtiphindialkmnaaDoor.X
set_option linter.unusedVariables false
set_option linter.unusedSimpArgs false
open Go.RowKit Go.Lib Go.Proofs.YtiphindialkmnaaDoorW.PrintWords Go.Proofs.YtiphindialkmnaaDoorW.PrintLast Go.Proofs.YtiphindialkmnaaDoorW.PrintMore

theorem width_pos (s : ByteArray) (pos : Nat) (h : pos < s.size) : 1 ≤ (Utf8.decode s pos).2 := by
  by_cases ha : (s[pos]'h).toNat < 128
  · rw [decode_ascii s pos h ha]
    exact Nat.le_refl _
  · exact (decode_high s pos h (by omega)).2

/-! ### Runes -/
def name_Runes.l (s : ByteArray) : Nat → Nat → Int → Int
  | 0, _, n => n
  | b + 1, pos, n => if pos < s.size then name_Runes.l s b (pos + (Utf8.decode s pos).2) (wrap64 (n + 1)) else n
def name_Runes.f (s : ByteArray) : Option Int := some (name_Runes.l s s.size 0 0)
theorem name_Runes.end_ (s : ByteArray) (b pos : Nat) (n : Int) (h : ¬ pos < s.size) : name_Runes.l s b pos n = n := by
  cases b with
  | zero => rfl
  | succ b => simp [name_Runes.l, h]
set_option maxRecDepth 100000 in
theorem name_Runes.calls (a0 : ByteArray) (r : Int) (w : World) (h : name_Runes.f a0 = some r) :
    Calls Tryd.prog 114 #[.string a0] w fun e w' => e = .returned (.int .i64 r) ∧ Below w.heap.size w w' := by
  obtain rfl := Option.some.inj h
  clear h
  go_enter Tryd.func114, Tryd.ntmps114
  go_wp2
  go_loopw [3] (fun n wr => ∃ (pos b : Nat) (acc : Int), wr = w.iter a0 pos ∧ n = .int .i64 acc ∧ Aside0 (name_Runes.l a0 b pos acc = name_Runes.l a0 a0.size 0 0) ∧ a0.size ≤ pos + b) (fun _ wr => a0.size - wr.iterPos w.heap.size)
  case atStart => exact ⟨0, a0.size, 0, rfl, rfl, ⟨rfl⟩, by omega⟩
  case round =>
    obtain ⟨pos, b, acc, rfl, rfl, hc, hb⟩ := hrel
    by_cases hp : pos < a0.size
    · have hnx : ∀ ty, (Instr.next (.pointer (some ⟨w.heap.size, 0, none⟩)) true ty).run Tryd.prog (w.iter a0 pos) = _ := fun ty => run_next_any w a0 pos ty hp
      go_wp2
      have hwd := width_pos a0 pos hp
      go_roundw
      case rel =>
        cases b with
        | zero => omega
        | succ b =>
          refine ⟨pos + (Utf8.decode a0 pos).2, b, _, rfl, rfl, ⟨?_⟩, by omega⟩
          rw [← hc.out]
          simp [name_Runes.l, hp]
      case measure =>
        simp
        omega
    · have hnx : ∀ ty, (Instr.next (.pointer (some ⟨w.heap.size, 0, none⟩)) true ty).run Tryd.prog (w.iter a0 pos) = _ := fun ty => run_next_end w a0 pos ty hp
      go_wp2
      go_ret
      have hc := hc.out
      rw [name_Runes.end_ a0 b pos acc hp] at hc
      exact ⟨by rw [hc]; rfl, (Below.refl _ _).alloc (Nat.le_refl _) _⟩

/-! ### version -/
def name_version.l (s : ByteArray) : Nat → Nat → Int → Int
  | 0, _, n => n
  | b + 1, pos, n => if pos < s.size then (if ((Utf8.decode s pos).1 : Int) < 48 then 0 else if ((Utf8.decode s pos).1 : Int) > 57 then 0 else name_version.l s b (pos + (Utf8.decode s pos).2) (wrap64 (wrap64 (10 * n) + (((Utf8.decode s pos).1 : Int) - 48)))) else n
def name_version.f (s : ByteArray) : Option Int := if s.size = 0 then some 0 else if s.size > 3 then some 0 else if bt s 0 = 48 then some 0 else some (name_version.l s s.size 0 0)
theorem name_version.end_ (s : ByteArray) (b pos : Nat) (n : Int) (h : ¬ pos < s.size) : name_version.l s b pos n = n := by
  cases b with
  | zero => rfl
  | succ b => simp [name_version.l, h]
theorem toList_nil (s : ByteArray) (h : s.size = 0) : s.toList = [] := by
  have : s.toList.length = 0 := by rw [ByteArray.toList_eq]; exact h
  exact List.eq_nil_of_length_eq_zero this
theorem toList_ne (s : ByteArray) (h : s.size ≠ 0) : s.toList.isEmpty = false := by
  cases hs : s.toList with
  | nil =>
    have : s.toList.length = s.size := by rw [ByteArray.toList_eq]; rfl
    rw [hs] at this
    exact absurd this.symm h
  | cons a l => rfl
set_option maxRecDepth 100000 in
theorem name_version.calls (a0 : ByteArray) (r : Int) (w : World) (h : name_version.f a0 = some r) :
    Calls Tryd.prog 112 #[.string a0] w fun e w' => e = .returned (.int .i64 r) ∧ Below w.heap.size w w' := by
  unfold name_version.f at h
  by_cases h0 : a0.size = 0
  · rw [if_pos h0] at h
    obtain rfl := Option.some.inj h
    have e0 : a0.toList.isEmpty = true := by rw [toList_nil a0 h0]; rfl
    have e1 := toList_nil a0 h0
    clear h h0
    go_enter Tryd.func112, Tryd.ntmps112
    go_wp2
    go_ret
    exact ⟨rfl, Below.refl _ _⟩
  rw [if_neg h0] at h
  have e0 := toList_ne a0 h0
  have e1 : ¬ a0.toList = [] := fun e => by rw [e] at e0; cases e0
  have hp : 0 < a0.size := by omega
  by_cases h3 : a0.size > 3
  · rw [if_pos h3] at h
    obtain rfl := Option.some.inj h
    have e2 : decide (3 < (a0.size : Int)) = true := decide_eq_true (by omega)
    clear h h0
    go_enter Tryd.func112, Tryd.ntmps112
    go_wp2
    go_ret
    exact ⟨rfl, Below.refl _ _⟩
  rw [if_neg h3] at h
  have e2 : decide (3 < (a0.size : Int)) = false := decide_eq_false (by omega)
  have hb := bt_at a0 0 (by simpa using hp)
  simp only [Int.toNat_zero] at hb
  by_cases h4 : bt a0 0 = 48
  · rw [if_pos h4] at h
    obtain rfl := Option.some.inj h
    have e3 : ((a0[0].toNat : Int) == 48) = true := by rw [hb, h4]; rfl
    clear h h0 hb h4
    go_enter Tryd.func112, Tryd.ntmps112
    go_wp2
    go_ret
    exact ⟨rfl, Below.refl _ _⟩
  rw [if_neg h4] at h
  obtain rfl := Option.some.inj h
  have e3 : ((a0[0].toNat : Int) == 48) = false := by rw [hb]; exact beq_eq_false_iff_ne.2 h4
  clear h h0 hb h4
  go_enter Tryd.func112, Tryd.ntmps112
  go_wp2
  go_loopw [3, 5] (fun n rr wr => ∃ (pos b : Nat) (acc : Int), wr = w.iter a0 pos ∧ n = .int .i64 acc ∧ Aside0 (name_version.l a0 b pos acc = name_version.l a0 a0.size 0 0) ∧ a0.size ≤ pos + b) (fun _ _ wr => a0.size - wr.iterPos w.heap.size)
  case atStart => exact ⟨0, a0.size, 0, rfl, rfl, ⟨rfl⟩, by omega⟩
  case round =>
    obtain ⟨pos, b, acc, rfl, rfl, hc, hb⟩ := hrel
    by_cases hp : pos < a0.size
    · have hnx : ∀ ty, (Instr.next (.pointer (some ⟨w.heap.size, 0, none⟩)) true ty).run Tryd.prog (w.iter a0 pos) = _ := fun ty => run_next_any w a0 pos ty hp
      have hwd := width_pos a0 pos hp
      cases b with
      | zero => omega
      | succ b =>
      have hc := hc.out
      simp only [name_version.l, if_pos hp] at hc
      by_cases c1 : ((Utf8.decode a0 pos).1 : Int) < 48
      · rw [if_pos c1] at hc
        have HC := Aside0.mk hc
        clear hc
        have c1' := decide_eq_true c1
        go_wp2
        go_ret
        exact ⟨by rw [← HC.out]; rfl, (Below.refl _ _).alloc (Nat.le_refl _) _⟩
      · rw [if_neg c1] at hc
        have c1' := decide_eq_false c1
        by_cases c2 : ((Utf8.decode a0 pos).1 : Int) > 57
        · rw [if_pos c2] at hc
          have HC := Aside0.mk hc
          clear hc
          have c2' : decide (57 < ((Utf8.decode a0 pos).1 : Int)) = true := decide_eq_true c2
          go_wp2
          go_ret
          exact ⟨by rw [← HC.out]; rfl, (Below.refl _ _).alloc (Nat.le_refl _) _⟩
        · rw [if_neg c2] at hc
          have HC := Aside0.mk hc
          clear hc
          have c2' : decide (57 < ((Utf8.decode a0 pos).1 : Int)) = false := decide_eq_false c2
          have c1'' : (48 : Int) ≤ ((Utf8.decode a0 pos).1 : Int) := by omega
          have c2'' : ((Utf8.decode a0 pos).1 : Int) ≤ 57 := by omega
          go_wp2
          go_roundw
          case rel => exact ⟨pos + (Utf8.decode a0 pos).2, b, _, rfl, rfl, ⟨HC.out⟩, by omega⟩
          case measure =>
            simp
            omega
    · have hnx : ∀ ty, (Instr.next (.pointer (some ⟨w.heap.size, 0, none⟩)) true ty).run Tryd.prog (w.iter a0 pos) = _ := fun ty => run_next_end w a0 pos ty hp
      go_wp2
      go_ret
      have hc := hc.out
      rw [name_version.end_ a0 b pos acc hp] at hc
      exact ⟨by rw [hc]; rfl, (Below.refl _ _).alloc (Nat.le_refl _) _⟩

/-! ### strings.Index at a separator of one byte -/
def stringslite_Index.f (s sub : ByteArray) : Option Int := match sub.data.toList with
  | [c] => some (Lib.indexByte s.data.toList c)
  | _ => none
theorem stringslite_Index.calls (a0 a1 : ByteArray) (r : Int) (w : World) (h : stringslite_Index.f a0 a1 = some r) :
    Calls Tryd.prog 131 #[.string a0, .string a1] w fun e w' => e = .returned (.int .i64 r) ∧ Drawn0 w w' := by
  unfold stringslite_Index.f at h
  split at h
  · rename_i c hc
    obtain rfl := Option.some.inj h
    have e : a1 = ⟨#[c]⟩ := by
      cases a1 with
      | mk d =>
        have hd : d = #[c] := by
          apply Array.toList_inj.1
          simpa using hc
        rw [hd]
    subst e
    exact (Tryd.stringslite_Index_one a0 c w).mono fun e w' ⟨he, hw⟩ => ⟨he, by subst hw; exact Drawn0.refl _⟩
  · cases h

/-! ### isStem -/
def name_isStem.bad (s : ByteArray) (pos : Nat) : Bool :=
  !(decide ((Utf8.decode s pos).1 ≥ 97 ∧ (Utf8.decode s pos).1 ≤ 122 ∨ (Utf8.decode s pos).1 ≥ 65 ∧ (Utf8.decode s pos).1 ≤ 90 ∨ (Utf8.decode s pos).1 ≥ 128 ∧ ¬ ((Utf8.decode s pos).1 = 65533 ∧ (Lib.decodeGo (s.extract pos s.size)).2 = 1)))
    && (decide (pos = 0) || ((Utf8.decode s pos).1 != 95 && (decide ((Utf8.decode s pos).1 < 48) || decide ((Utf8.decode s pos).1 > 57))))
def name_isStem.l (s : ByteArray) : Nat → Nat → Bool
  | 0, _ => decide (s.size ≠ 0)
  | b + 1, pos => if pos < s.size then (if name_isStem.bad s pos = true then false else name_isStem.l s b (pos + (Utf8.decode s pos).2)) else decide (s.size ≠ 0)
def name_isStem.f (s : ByteArray) : Option Bool := some (name_isStem.l s s.size 0)
theorem name_isStem.end_ (s : ByteArray) (b pos : Nat) (h : ¬ pos < s.size) : name_isStem.l s b pos = decide (s.size ≠ 0) := by
  cases b with
  | zero => rfl
  | succ b => simp [name_isStem.l, h]
/-- letter's answer. -/
def letB (r : Nat) (wrong : Bool) : Bool := decide (r ≥ 97 ∧ r ≤ 122 ∨ r ≥ 65 ∧ r ≤ 90 ∨ r ≥ 128 ∧ ¬ wrong = true)
theorem letter_is (r : Nat) (b : Bool) : name_letter.f (r : Int) b = some (letB r b) := by
  unfold name_letter.f letB
  cases b <;> (repeat' split) <;> simp <;> omega
theorem name_isStem.bad_is (s : ByteArray) (pos rn wd : Nat) (hd : Utf8.decode s pos = (rn, wd)) (wrong : Bool) (hw : wrong = decide (rn = 65533 ∧ (Lib.decodeGo (s.extract pos s.size)).2 = 1)) :
    name_isStem.bad s pos = (!(letB rn wrong) && (decide (pos = 0) || (rn != 95 && (decide (rn < 48) || decide (rn > 57))))) := by
  subst hw
  unfold name_isStem.bad letB
  rw [hd]
  congr 2
  simp
theorem iter_below {w w1 : World} {k : Nat} {s : ByteArray} {p : Nat} (h : w.heap[k]? = some (.stringIter s p)) (hb : Below w.heap.size w w1) : w1.heap[k]? = some (.stringIter s p) := by
  rw [hb.block k (Array.getElem?_eq_some_iff.1 h).1]; exact h
set_option maxRecDepth 100000 in
theorem name_isStem.calls (a0 : ByteArray) (r : Bool) (w : World) (hG : Glob w) (h : name_isStem.f a0 = some r) :
    Calls Tryd.prog 113 #[.string a0] w fun e w' => e = .returned (.bool r) ∧ Below w.heap.size w w' := by
  obtain rfl := Option.some.inj h
  have HG := Aside0.mk hG
  clear h hG
  go_enter Tryd.func113, Tryd.ntmps113
  go_wp2
  go_loopw [3, 4, 5, 6, 7] (fun _ _ _ _ _ wr => ∃ (pos b : Nat), Aside0 (wr.heap[w.heap.size]? = some (.stringIter a0 pos)) ∧ Aside0 (Below w.heap.size w wr) ∧ Aside0 (name_isStem.l a0 b pos = name_isStem.l a0 a0.size 0) ∧ a0.size ≤ pos + b) (fun _ _ _ _ _ wr => a0.size - wr.iterPos w.heap.size)
  case atStart => exact ⟨0, a0.size, ⟨World.iter_heap w a0 0⟩, ⟨(Below.refl _ _).alloc (Nat.le_refl _) _⟩, ⟨rfl⟩, by omega⟩
  case round =>
    obtain ⟨pos, b, HI, HB, hc, hb⟩ := hrel
    by_cases hp : pos < a0.size
    · have hnx := fun ty => run_next_any_at (P := Tryd.prog) wr w.heap.size a0 pos ty HI.out hp
      have hwd := width_pos a0 pos hp
      cases b with
      | zero => omega
      | succ b =>
      have hc := hc.out
      simp only [name_isStem.l, if_pos hp] at hc
      obtain ⟨rn, wd, hd⟩ : ∃ rn wd, Utf8.decode a0 pos = (rn, wd) := ⟨_, _, rfl⟩
      rw [hd] at hnx hwd hc
      simp only at hnx hwd hc
      have HC := Aside0.mk hc
      have HD := Aside0.mk hd
      clear hc hd
      have HI1 := Aside0.mk (iterAt_heap wr w.heap.size a0 pos (pos + wd) HI.out)
      have HB1 := Aside0.mk (below_iterAt HB.out (Nat.le_refl _) a0 (pos + wd))
      have HP := Aside0.mk (show wr.iterPos w.heap.size = pos by simp [World.iterPos, HI.out])
      clear HI HB
      by_cases hr : rn = 65533
      · subst hr
        go_wp2_with fail
        refine (Tryd.utf8_DecodeRuneInString _ _ (HG.out.below HB1.out).tabs).mono ?_
        rintro e w1 ⟨rfl, hb1⟩
        have HI2 := Aside0.mk (iter_below HI1.out hb1)
        have HB2 := Aside0.mk (below_step HB1.out hb1)
        have HW := Aside0.mk (name_isStem.bad_is a0 pos _ _ HD.out (((Lib.decodeGo (a0.extract pos a0.size)).2 : Int) == 1) (by rw [Bool.eq_iff_iff]; simp; omega))
        clear hb1 HI1 HB1
        obtain ⟨wrong, hwr⟩ : ∃ x : Bool, x = (((Lib.decodeGo (a0.extract pos a0.size)).2 : Int) == 1) := ⟨_, rfl⟩
        rw [← hwr] at HW
        go_wp2_with fail
        rw [← hwr]
        clear hwr
        refine (name_letter.calls _ _ _ _ (letter_is _ wrong)).mono ?_
        rintro e w' ⟨rfl, ⟨nd, rfl⟩⟩
        cases hl : letB 65533 wrong with
        | true =>
          have hbad : name_isStem.bad a0 pos = false := by rw [HW.out, hl]; simp
          have HD := HC.out
          rw [hbad] at HD
          simp only [Bool.false_eq_true, if_false, if_true] at HD
          have HE := Aside0.mk HD
          clear HD HC HW hbad
          go_wp2
          go_roundw
          case rel => exact ⟨pos + wd, b, ⟨HI2.out⟩, ⟨pw_below_drewN HB2.out nd⟩, ⟨HE.out⟩, by omega⟩
          case measure =>
            have := HP.out
            have e : (w1.drewN nd).iterPos w.heap.size = pos + wd := by simp [World.iterPos, HI2.out]
            omega
        | false =>
          by_cases z : pos = 0
          · have z' : ((pos : Int) == 0) = true := beq_iff_eq.2 (by omega)
            have hbad : name_isStem.bad a0 pos = true := by rw [HW.out, hl]; simp [z]
            have HD := HC.out
            rw [hbad] at HD
            simp only [Bool.false_eq_true, if_false, if_true] at HD
            have HE := Aside0.mk HD
            clear HD HC HW hbad z
            go_wp2
            go_ret
            exact ⟨by rw [← HE.out]; rfl, pw_below_drewN HB2.out nd⟩
          have z' : ((pos : Int) == 0) = false := beq_eq_false_iff_ne.2 (by omega)
          have hbad : name_isStem.bad a0 pos = true := by rw [HW.out, hl]; simp [z]
          have HD := HC.out
          rw [hbad] at HD
          simp only [Bool.false_eq_true, if_false, if_true] at HD
          have HE := Aside0.mk HD
          clear HD HC HW hbad
          clear z
          go_wp2
          go_ret
          exact ⟨by rw [← HE.out]; rfl, pw_below_drewN HB2.out nd⟩
      · have hr' : ((rn : Int) == 65533) = false := beq_eq_false_iff_ne.2 (by omega)
        have HW := Aside0.mk (name_isStem.bad_is a0 pos _ _ HD.out false (by simp [hr]))
        clear hr
        have HI2 := HI1
        have HB2 := HB1
        clear HI1 HB1
        go_wp2_with fail
        refine (name_letter.calls _ _ _ _ (letter_is _ false)).mono ?_
        rintro e w' ⟨rfl, ⟨nd, rfl⟩⟩
        cases hl : letB rn false with
        | true =>
          have hbad : name_isStem.bad a0 pos = false := by rw [HW.out, hl]; simp
          have HD := HC.out
          rw [hbad] at HD
          simp only [Bool.false_eq_true, if_false, if_true] at HD
          have HE := Aside0.mk HD
          clear HD HC HW hbad
          go_wp2
          go_roundw
          case rel => exact ⟨pos + wd, b, ⟨HI2.out⟩, ⟨pw_below_drewN HB2.out nd⟩, ⟨HE.out⟩, by omega⟩
          case measure =>
            have := HP.out
            have e : ((wr.iterAt w.heap.size a0 (pos + wd)).drewN nd).iterPos w.heap.size = pos + wd := by simp [World.iterPos, HI2.out]
            omega
        | false =>
          by_cases z : pos = 0
          · have z' : ((pos : Int) == 0) = true := beq_iff_eq.2 (by omega)
            have hbad : name_isStem.bad a0 pos = true := by rw [HW.out, hl]; simp [z]
            have HD := HC.out
            rw [hbad] at HD
            simp only [Bool.false_eq_true, if_false, if_true] at HD
            have HE := Aside0.mk HD
            clear HD HC HW hbad z
            go_wp2
            go_ret
            exact ⟨by rw [← HE.out]; rfl, pw_below_drewN HB2.out nd⟩
          have z' : ((pos : Int) == 0) = false := beq_eq_false_iff_ne.2 (by omega)
          by_cases u : rn = 95
          · subst u
            have hbad : name_isStem.bad a0 pos = false := by rw [HW.out, hl]; simp [z]
            have HD := HC.out
            rw [hbad] at HD
            simp only [Bool.false_eq_true, if_false, if_true] at HD
            have HE := Aside0.mk HD
            clear HD HC HW hbad z
            go_wp2
            go_roundw
            case rel => exact ⟨pos + wd, b, ⟨HI2.out⟩, ⟨pw_below_drewN HB2.out nd⟩, ⟨HE.out⟩, by omega⟩
            case measure =>
              have := HP.out
              have e : ((wr.iterAt w.heap.size a0 (pos + wd)).drewN nd).iterPos w.heap.size = pos + wd := by simp [World.iterPos, HI2.out]
              omega

          have u' : ((rn : Int) != 95) = true := bne_iff_ne.2 (by omega)
          by_cases lo : rn < 48
          · have lo' : decide ((rn : Int) < 48) = true := decide_eq_true (by omega)
            have hbad : name_isStem.bad a0 pos = true := by rw [HW.out, hl]; simp [z, u, lo]
            have HD := HC.out
            rw [hbad] at HD
            simp only [Bool.false_eq_true, if_false, if_true] at HD
            have HE := Aside0.mk HD
            clear HD HC HW hbad z u lo
            go_wp2
            go_ret
            exact ⟨by rw [← HE.out]; rfl, pw_below_drewN HB2.out nd⟩

          have lo' : decide ((rn : Int) < 48) = false := decide_eq_false (by omega)
          by_cases hi : rn > 57
          · have hi' : decide (57 < (rn : Int)) = true := decide_eq_true (by omega)
            have hbad : name_isStem.bad a0 pos = true := by rw [HW.out, hl]; simp [z, u, hi]
            have HD := HC.out
            rw [hbad] at HD
            simp only [Bool.false_eq_true, if_false, if_true] at HD
            have HE := Aside0.mk HD
            clear HD HC HW hbad z u lo hi
            go_wp2
            go_ret
            exact ⟨by rw [← HE.out]; rfl, pw_below_drewN HB2.out nd⟩

          have hi' : decide (57 < (rn : Int)) = false := decide_eq_false (by omega)
          have hbad : name_isStem.bad a0 pos = false := by rw [HW.out, hl]; simp [z, u, lo, hi]
          have HD := HC.out
          rw [hbad] at HD
          simp only [Bool.false_eq_true, if_false, if_true] at HD
          have HE := Aside0.mk HD
          clear HD HC HW hbad z u lo hi
          go_wp2
          go_roundw
          case rel => exact ⟨pos + wd, b, ⟨HI2.out⟩, ⟨pw_below_drewN HB2.out nd⟩, ⟨HE.out⟩, by omega⟩
          case measure =>
            have := HP.out
            have e : ((wr.iterAt w.heap.size a0 (pos + wd)).drewN nd).iterPos w.heap.size = pos + wd := by simp [World.iterPos, HI2.out]
            omega
    · have hnx := fun ty => run_next_end_at (P := Tryd.prog) wr w.heap.size a0 pos ty HI.out hp
      have hc := hc.out
      rw [name_isStem.end_ a0 b pos hp] at hc
      have HC := Aside0.mk hc
      clear hc
      go_wp2
      go_ret
      refine ⟨?_, HB.out⟩
      rw [← HC.out]
      refine congrArg (fun b => Ending.returned (.bool b)) ?_
      by_cases h0 : a0.size = 0
      · simp [h0, toList_nil a0 h0]
      · simp [h0, toList_ne a0 h0]
end Go.Proofs.YtiphindialkmnaaDoor.X
end
section
namespace Go.Proofs.YtiphindialkmnaaDoor.X
open Go.RowKit Go.Proofs.YtiphindialkmnaaDoorW.PrintWords Go.Proofs.YtiphindialkmnaaDoorW.PrintLast Go.Proofs.YtiphindialkmnaaDoorW.PrintMore
attribute [local go_sem] max2_int min2_int max_two min_two max_three min_three max_four min_four
set_option linter.unusedVariables false
set_option linter.unusedSimpArgs false

/-! ### stringslite_Cut: function 126 -/
def stringslite_Cut.f (a0 : ByteArray) (a1 : ByteArray) : Option (ByteArray × ByteArray × Bool) := (stringslite_Index.f a0 a1).bind fun t101 => (if t101 ≥ 0 then (if 0 ≤ t101 then (if t101 ≤ (a0.size : Int) then (if 0 ≤ (wrap64 (t101 + (a1.size : Int))) then (if (wrap64 (t101 + (a1.size : Int))) ≤ (a0.size : Int) then (some (a0.extract 0 (t101 : Int).toNat, a0.extract ((wrap64 (t101 + (a1.size : Int))) : Int).toNat a0.size, true)) else (none)) else (none)) else (none)) else (none)) else (some (a0, (⟨#[]⟩ : ByteArray), false)))
set_option maxHeartbeats 8000000 in
set_option maxRecDepth 100000 in
theorem stringslite_Cut.calls (a0 : ByteArray) (a1 : ByteArray) (r1 : ByteArray) (r2 : ByteArray) (r3 : Bool) (w : World) (h : stringslite_Cut.f a0 a1 = some (r1, r2, r3)) :
  Calls Tryd.prog 126 #[.string a0, .string a1] w fun e w' => e = .returned (.tuple #[.string r1, .string r2, .bool r3]) ∧ Drawn0 w w' := by
 have H : ((stringslite_Index.f a0 a1).bind fun t101 => (if t101 ≥ 0 then (if 0 ≤ t101 then (if t101 ≤ (a0.size : Int) then (if 0 ≤ (wrap64 (t101 + (a1.size : Int))) then (if (wrap64 (t101 + (a1.size : Int))) ≤ (a0.size : Int) then (some (a0.extract 0 (t101 : Int).toNat, a0.extract ((wrap64 (t101 + (a1.size : Int))) : Int).toNat a0.size, true)) else (none)) else (none)) else (none)) else (none)) else (some (a0, (⟨#[]⟩ : ByteArray), false)))) = some (r1, r2, r3) := h
 clear h
 replace H := Option.bind_eq_some_iff.mp H
 obtain ⟨t101, A30, H⟩ := H
 replace H : (if t101 ≥ 0 then (if 0 ≤ t101 then (if t101 ≤ (a0.size : Int) then (if 0 ≤ (wrap64 (t101 + (a1.size : Int))) then (if (wrap64 (t101 + (a1.size : Int))) ≤ (a0.size : Int) then (some (a0.extract 0 (t101 : Int).toNat, a0.extract ((wrap64 (t101 + (a1.size : Int))) : Int).toNat a0.size, true)) else (none)) else (none)) else (none)) else (none)) else (some (a0, (⟨#[]⟩ : ByteArray), false))) = some (r1, r2, r3) := H
 have A3 := Aside0.mk A30
 clear A30
 by_cases c4 : t101 ≥ 0
 ·rw [if_pos c4] at H
  have c4b0 : decide (0 ≤ t101) = true := decide_eq_true c4
  clear c4
  by_cases c5 : 0 ≤ t101
  ·rw [if_pos c5] at H
   have c5b0 := eq_true c5
   have c5b1 : decide (0 ≤ t101) = true := decide_eq_true c5
   clear c5
   by_cases c6 : t101 ≤ (a0.size : Int)
   ·rw [if_pos c6] at H
    have c6b0 := eq_true c6
    have c6b1 : decide (t101 ≤ (a0.size : Int)) = true := decide_eq_true c6
    clear c6
    obtain ⟨ji7, hji7⟩ : ∃ j_ : Int, (wrap64 (t101 + (a1.size : Int))) = j_ := ⟨_, rfl⟩
    replace H : (if 0 ≤ (ji7) then (if (ji7) ≤ (a0.size : Int) then (some (a0.extract 0 (t101 : Int).toNat, a0.extract ((ji7) : Int).toNat a0.size, true)) else (none)) else (none)) = some (r1, r2, r3) := by first | (rw [hji7] at H; exact H) | (simp only [hji7] at H ⊢; exact H)
    (try rw [hji7] at A3)
    have hji7w : (IntKind.i64.wrap (t101 + (a1.size : Int))) = ji7 := (i64_w _).trans hji7
    by_cases c8 : 0 ≤ (ji7)
    ·rw [if_pos c8] at H
     have c8b0 := eq_true c8
     have c8b1 : decide (0 ≤ (ji7)) = true := decide_eq_true c8
     clear c8
     by_cases c9 : (ji7) ≤ (a0.size : Int)
     ·rw [if_pos c9] at H
      have c9b0 := eq_true c9
      have c9b1 : decide ((ji7) ≤ (a0.size : Int)) = true := decide_eq_true c9
      clear c9
      simp only [Option.some.injEq, Prod.mk.injEq] at H
      obtain ⟨rfl, rfl, rfl⟩ := H
      go_enter Tryd.func126, Tryd.ntmps126
      go_wp2_with (first | (go_at_call 131; (with_reducible refine (stringslite_Index.calls a0 a1 t101 _ A3.out).mono ?_); rintro e w' ⟨rfl, ⟨nd, rfl⟩⟩; (try first | exact ⟨rfl, _, World.drewN_drewN _ _ _⟩ | exact ⟨rfl, _, Eq.trans (World.drewN_drewN _ _ _) (congrArg (World.drewN _) (Nat.add_assoc _ _ _))⟩)))
      repeat (go_quiet (first | (go_at_call 131; (with_reducible refine (stringslite_Index.calls a0 a1 t101 _ A3.out).mono ?_); rintro e w' ⟨rfl, ⟨nd, rfl⟩⟩; (try first | exact ⟨rfl, _, World.drewN_drewN _ _ _⟩ | exact ⟨rfl, _, Eq.trans (World.drewN_drewN _ _ _) (congrArg (World.drewN _) (Nat.add_assoc _ _ _))⟩))); try go_wp2_with (first | (go_at_call 131; (with_reducible refine (stringslite_Index.calls a0 a1 t101 _ A3.out).mono ?_); rintro e w' ⟨rfl, ⟨nd, rfl⟩⟩; (try first | exact ⟨rfl, _, World.drewN_drewN _ _ _⟩ | exact ⟨rfl, _, Eq.trans (World.drewN_drewN _ _ _) (congrArg (World.drewN _) (Nat.add_assoc _ _ _))⟩))))
      go_ret3
      exact ⟨by first | rfl | (simp; done) | (simp only [← hji7] <;> (first | rfl | simp)) | (simp [*]; done), tw⟩
     ·rw [if_neg c9] at H
      exact absurd H (by simp)
    ·rw [if_neg c8] at H
     exact absurd H (by simp)
   ·rw [if_neg c6] at H
    exact absurd H (by simp)
  ·rw [if_neg c5] at H
   exact absurd H (by simp)
 ·rw [if_neg c4] at H
  have c4b0 : decide (0 ≤ t101) = false := decide_eq_false c4
  clear c4
  simp only [Option.some.injEq, Prod.mk.injEq] at H
  obtain ⟨rfl, rfl, rfl⟩ := H
  go_enter Tryd.func126, Tryd.ntmps126
  go_wp2_with (first | (go_at_call 131; (with_reducible refine (stringslite_Index.calls a0 a1 t101 _ A3.out).mono ?_); rintro e w' ⟨rfl, ⟨nd, rfl⟩⟩; (try first | exact ⟨rfl, _, World.drewN_drewN _ _ _⟩ | exact ⟨rfl, _, Eq.trans (World.drewN_drewN _ _ _) (congrArg (World.drewN _) (Nat.add_assoc _ _ _))⟩)))
  repeat (go_quiet (first | (go_at_call 131; (with_reducible refine (stringslite_Index.calls a0 a1 t101 _ A3.out).mono ?_); rintro e w' ⟨rfl, ⟨nd, rfl⟩⟩; (try first | exact ⟨rfl, _, World.drewN_drewN _ _ _⟩ | exact ⟨rfl, _, Eq.trans (World.drewN_drewN _ _ _) (congrArg (World.drewN _) (Nat.add_assoc _ _ _))⟩))); try go_wp2_with (first | (go_at_call 131; (with_reducible refine (stringslite_Index.calls a0 a1 t101 _ A3.out).mono ?_); rintro e w' ⟨rfl, ⟨nd, rfl⟩⟩; (try first | exact ⟨rfl, _, World.drewN_drewN _ _ _⟩ | exact ⟨rfl, _, Eq.trans (World.drewN_drewN _ _ _) (congrArg (World.drewN _) (Nat.add_assoc _ _ _))⟩))))
  go_ret3
  exact ⟨ts, tw⟩

end Go.Proofs.YtiphindialkmnaaDoor.X
end
section
namespace Go.Proofs.YtiphindialkmnaaDoor.X
open Go.RowKit Go.Proofs.YtiphindialkmnaaDoorW.PrintWords Go.Proofs.YtiphindialkmnaaDoorW.PrintLast Go.Proofs.YtiphindialkmnaaDoorW.PrintMore
attribute [local go_sem] max2_int min2_int max_two min_two max_three min_three max_four min_four
set_option linter.unusedVariables false
set_option linter.unusedSimpArgs false

/-! ### strings_Cut: function 111 -/
def strings_Cut.f (a0 : ByteArray) (a1 : ByteArray) : Option (ByteArray × ByteArray × Bool) := (stringslite_Cut.f a0 a1).bind fun bt101 => (some (bt101.1, bt101.2.1, bt101.2.2))
set_option maxHeartbeats 8000000 in
set_option maxRecDepth 100000 in
theorem strings_Cut.calls (a0 : ByteArray) (a1 : ByteArray) (r1 : ByteArray) (r2 : ByteArray) (r3 : Bool) (w : World) (h : strings_Cut.f a0 a1 = some (r1, r2, r3)) :
  Calls Tryd.prog 111 #[.string a0, .string a1] w fun e w' => e = .returned (.tuple #[.string r1, .string r2, .bool r3]) ∧ Drawn0 w w' := by
 have H : ((stringslite_Cut.f a0 a1).bind fun bt101 => (some (bt101.1, bt101.2.1, bt101.2.2))) = some (r1, r2, r3) := h
 clear h
 replace H := Option.bind_eq_some_iff.mp H
 obtain ⟨⟨t101, t102, t103⟩, A30, H⟩ := H
 replace H : (some (t101, t102, t103)) = some (r1, r2, r3) := H
 have A3 := Aside0.mk A30
 clear A30
 simp only [Option.some.injEq, Prod.mk.injEq] at H
 obtain ⟨rfl, rfl, rfl⟩ := H
 go_enter Tryd.func111, Tryd.ntmps111
 go_wp2_with (first | ((with_reducible refine gate_callee (f := 126) rfl ?_); refine goesL_ (some 9) rfl rfl Tryd.func126 (by kernel_rfl) rfl #[.string a0, .string a1] rfl tm ?_; (with_reducible refine (stringslite_Cut.calls a0 a1 t101 t102 t103 _ A3.out).mono ?_); rintro e w' ⟨rfl, ⟨nd, rfl⟩⟩; refine ⟨_, rfl, ?_⟩))
 go_ret3
 exact ⟨ts, tw⟩

end Go.Proofs.YtiphindialkmnaaDoor.X
end
section
namespace Go.Proofs.YtiphindialkmnaaDoor.X
open Go.RowKit Go.Proofs.YtiphindialkmnaaDoorW.PrintWords Go.Proofs.YtiphindialkmnaaDoorW.PrintLast Go.Proofs.YtiphindialkmnaaDoorW.PrintMore
attribute [local go_sem] max2_int min2_int max_two min_two max_three min_three max_four min_four
set_option linter.unusedVariables false
set_option linter.unusedSimpArgs false

/-! ### name_Split: function 92 -/
def name_Split.j0 : Nat → ByteArray → ByteArray → Int → Bool → Option (ByteArray × Int × Int)
 | 0, _, _, _, _ => none
 | k + 1, x0, x5, x8, x17 => if x17 = true then (some ((⟨#[]⟩ : ByteArray), 0, 6)) else ((name_Runes.f x0).bind fun t106 => (if t106 > 24 then (some ((⟨#[]⟩ : ByteArray), 0, 5)) else (some (x5, x8, 0))))
def name_Split.f (k : Nat) (a0 : ByteArray) : Option (ByteArray × Int × Int) := (strings_Cut.f a0 (⟨#[64]⟩ : ByteArray)).bind fun bt101 => ((name_version.f bt101.2.1).bind fun t104 => ((name_isStem.f bt101.1).bind fun t105 => (if t105 = true then (if bt101.2.2 = true then (name_Split.j0 k a0 bt101.1 t104 (t104 == 0)) else (name_Split.j0 k a0 bt101.1 t104 false)) else (name_Split.j0 k a0 bt101.1 t104 true))))
theorem name_Split.mono_l : ∀ k, (∀ y0 y1 y2 y3, LeO (name_Split.j0 k y0 y1 y2 y3) (name_Split.j0 (k + 1) y0 y1 y2 y3))
 | 0 => fun _ _ _ _ r h => by simp [name_Split.j0] at h
 | k + 1 => by
  have ih0 := name_Split.mono_l k
  ·intro y0 y1 y2 y3
   unfold name_Split.j0
   repeat' first
   | (with_reducible exact ih0 _ _ _ _)
   | (with_reducible exact LeO.refl _)
   | (with_reducible exact LeO.none _)
   | (with_reducible refine LeO.ite ?_ ?_)
   | (with_reducible refine LeO.bind ?_ (fun _ => ?_))
theorem name_Split.mono : ∀ a0 k, LeO (name_Split.f k a0) (name_Split.f (k + 1) a0) := by
 intro a0 k
 have ih0 := name_Split.mono_l k
 unfold name_Split.f
 repeat' first
   | (with_reducible exact ih0 _ _ _ _)
   | (with_reducible exact LeO.refl _)
   | (with_reducible exact LeO.none _)
   | (with_reducible refine LeO.ite ?_ ?_)
   | (with_reducible refine LeO.bind ?_ (fun _ => ?_))
set_option maxHeartbeats 8000000 in
set_option maxRecDepth 100000 in
theorem name_Split.calls (k : Nat) (a0 : ByteArray) (r1 : ByteArray) (r2 : Int) (r3 : Int) (w : World) (hG : Glob w) (h : name_Split.f k a0 = some (r1, r2, r3)) :
  Calls Tryd.prog 92 #[.string a0] w fun e w' => e = .returned (.tuple #[.string r1, .int .i64 r2, .int .i64 r3]) ∧ Below w.heap.size w w' := by
 have HG := Aside0.mk hG
 clear hG
 have HB := Aside0.mk (Below.refl w.heap.size w)
 have H : ((strings_Cut.f a0 (⟨#[64]⟩ : ByteArray)).bind fun bt101 => ((name_version.f bt101.2.1).bind fun t104 => ((name_isStem.f bt101.1).bind fun t105 => (if t105 = true then (if bt101.2.2 = true then (name_Split.j0 k a0 bt101.1 t104 (t104 == 0)) else (name_Split.j0 k a0 bt101.1 t104 false)) else (name_Split.j0 k a0 bt101.1 t104 true))))) = some (r1, r2, r3) := h
 clear h
 replace H := Option.bind_eq_some_iff.mp H
 obtain ⟨⟨t101, t102, t103⟩, A20, H⟩ := H
 replace H : ((name_version.f t102).bind fun t104 => ((name_isStem.f t101).bind fun t105 => (if t105 = true then (if t103 = true then (name_Split.j0 k a0 t101 t104 (t104 == 0)) else (name_Split.j0 k a0 t101 t104 false)) else (name_Split.j0 k a0 t101 t104 true)))) = some (r1, r2, r3) := H
 have A2 := Aside0.mk A20
 clear A20
 replace H := Option.bind_eq_some_iff.mp H
 obtain ⟨t104, A30, H⟩ := H
 replace H : ((name_isStem.f t101).bind fun t105 => (if t105 = true then (if t103 = true then (name_Split.j0 k a0 t101 t104 (t104 == 0)) else (name_Split.j0 k a0 t101 t104 false)) else (name_Split.j0 k a0 t101 t104 true))) = some (r1, r2, r3) := H
 have A3 := Aside0.mk A30
 clear A30
 have HC4 := Aside0.mk H
 clear H
 go_enter Tryd.func92, Tryd.ntmps92
 go_upto_region 3 with (first | ((with_reducible refine gate_callee (f := 111) rfl ?_); refine goesL_ (some 11) rfl rfl Tryd.func111 (by kernel_rfl) rfl #[.string a0, .string (⟨#[64]⟩ : ByteArray)] rfl tm ?_; (with_reducible refine (strings_Cut.calls a0 (⟨#[64]⟩ : ByteArray) t101 t102 t103 _ A2.out).mono ?_); rintro e w' ⟨rfl, ⟨nd, rfl⟩⟩; refine ⟨_, rfl, ?_⟩) | ((with_reducible refine gate_callee (f := 112) rfl ?_); refine goesL_ (some 16) rfl rfl Tryd.func112 (by kernel_rfl) rfl #[.string t102] rfl tm ?_; (with_reducible refine (name_version.calls t102 t104 _ A3.out).mono ?_); rintro e w5 ⟨rfl, hb⟩; refine ⟨_, rfl, ?_⟩; replace HB := Aside0.mk (below_step (tg HB.out) hb); (try clear hb)))
 (try simp only [Act.put, List.setIfInBounds_toArray, List.set_cons_zero, List.set_cons_succ])
 go_cut [17] (fun v17 wc => ∃ (kq : Nat) (x17_3 : Bool), v17 = .bool x17_3 ∧ Aside0 (name_Split.j0 kq a0 t101 t104 x17_3 = some (r1, r2, r3)) ∧ Aside0 (kq ≤ k) ∧ Aside0 (Below w.heap.size w wc))
 case first =>
  have H := HC4.out
  clear HC4
  replace H := Option.bind_eq_some_iff.mp H
  obtain ⟨t105, A60, H⟩ := H
  replace H : (if t105 = true then (if t103 = true then (name_Split.j0 k a0 t101 t104 (t104 == 0)) else (name_Split.j0 k a0 t101 t104 false)) else (name_Split.j0 k a0 t101 t104 true)) = some (r1, r2, r3) := H
  have A6 := Aside0.mk A60
  clear A60
  by_cases c7 : t105 = true
  ·subst c7
   have H1 : (if t103 = true then (name_Split.j0 k a0 t101 t104 (t104 == 0)) else (name_Split.j0 k a0 t101 t104 false)) = some (r1, r2, r3) := by rw [if_pos rfl] at H; exact H
   clear H
   have H := H1
   clear H1
   by_cases c8 : t103 = true
   ·subst c8
    have H1 : (name_Split.j0 k a0 t101 t104 (t104 == 0)) = some (r1, r2, r3) := by rw [if_pos rfl] at H; exact H
    clear H
    have H := H1
    clear H1
    have H' := Aside0.mk H
    clear H
    go_wp2_with (first | ((with_reducible refine gate_callee (f := 113) rfl ?_); refine goesL_ (some 19) rfl rfl Tryd.func113 (by kernel_rfl) rfl #[.string t101] rfl tm ?_; (with_reducible refine (name_isStem.calls t101 true _ (by first | exact HG.out | exact Glob.below HG.out (tg HB.out)) A6.out).mono ?_); rintro e w9 ⟨rfl, hb⟩; refine ⟨_, rfl, ?_⟩; replace HB := Aside0.mk (below_step (tg HB.out) hb); (try clear hb)))
    go_meet
    case rel => exact ⟨_, ((t104 == 0)), ts, H', ⟨tn⟩, ⟨tg HB.out⟩⟩
   ·replace c8 := Bool.eq_false_iff.mpr c8
    subst c8
    have H1 : (name_Split.j0 k a0 t101 t104 false) = some (r1, r2, r3) := by rw [if_neg (show ¬ (false = true) by decide)] at H; exact H
    clear H
    have H := H1
    clear H1
    have H' := Aside0.mk H
    clear H
    go_wp2_with (first | ((with_reducible refine gate_callee (f := 113) rfl ?_); refine goesL_ (some 19) rfl rfl Tryd.func113 (by kernel_rfl) rfl #[.string t101] rfl tm ?_; (with_reducible refine (name_isStem.calls t101 true _ (by first | exact HG.out | exact Glob.below HG.out (tg HB.out)) A6.out).mono ?_); rintro e w10 ⟨rfl, hb⟩; refine ⟨_, rfl, ?_⟩; replace HB := Aside0.mk (below_step (tg HB.out) hb); (try clear hb)))
    go_meet
    case rel => exact ⟨_, (false), ts, H', ⟨tn⟩, ⟨tg HB.out⟩⟩
  ·replace c7 := Bool.eq_false_iff.mpr c7
   subst c7
   have H1 : (name_Split.j0 k a0 t101 t104 true) = some (r1, r2, r3) := by rw [if_neg (show ¬ (false = true) by decide)] at H; exact H
   clear H
   have H := H1
   clear H1
   have H' := Aside0.mk H
   clear H
   go_wp2_with (first | ((with_reducible refine gate_callee (f := 113) rfl ?_); refine goesL_ (some 19) rfl rfl Tryd.func113 (by kernel_rfl) rfl #[.string t101] rfl tm ?_; (with_reducible refine (name_isStem.calls t101 false _ (by first | exact HG.out | exact Glob.below HG.out (tg HB.out)) A6.out).mono ?_); rintro e w11 ⟨rfl, hb⟩; refine ⟨_, rfl, ?_⟩; replace HB := Aside0.mk (below_step (tg HB.out) hb); (try clear hb)))
   go_meet
   case rel => exact ⟨_, (true), ts, H', ⟨tn⟩, ⟨tg HB.out⟩⟩
 case rest =>
  clear HC4
  try clear c1
  try clear p2
  try clear c7
  try clear c8
  try clear c9
  try clear c11
  obtain ⟨kq, x17_3, rfl, HA, HJ3, HB⟩ := hcut
  cases kq with
  | zero => exact absurd HA.out (by simp [name_Split.j0])
  | succ kj3 =>
   have H := HA.out
   clear HA
   simp only [name_Split.j0] at H
   by_cases c12 : x17_3 = true
   ·subst c12
    have H1 : (some ((⟨#[]⟩ : ByteArray), 0, 6)) = some (r1, r2, r3) := by rw [if_pos rfl] at H; exact H
    clear H
    have H := H1
    clear H1
    simp only [Option.some.injEq, Prod.mk.injEq] at H
    obtain ⟨rfl, rfl, rfl⟩ := H
    go_wp2
    go_ret3
    exact ⟨te, tg HB.out⟩
   ·replace c12 := Bool.eq_false_iff.mpr c12
    subst c12
    have H1 : ((name_Runes.f a0).bind fun t106 => (if t106 > 24 then (some ((⟨#[]⟩ : ByteArray), 0, 5)) else (some (t101, t104, 0)))) = some (r1, r2, r3) := by rw [if_neg (show ¬ (false = true) by decide)] at H; exact H
    clear H
    have H := H1
    clear H1
    replace H := Option.bind_eq_some_iff.mp H
    obtain ⟨t106, A130, H⟩ := H
    replace H : (if t106 > 24 then (some ((⟨#[]⟩ : ByteArray), 0, 5)) else (some (t101, t104, 0))) = some (r1, r2, r3) := H
    have A13 := Aside0.mk A130
    clear A130
    by_cases c14 : t106 > 24
    ·rw [if_pos c14] at H
     have c14b0 : decide (24 < t106) = true := decide_eq_true c14
     clear c14
     simp only [Option.some.injEq, Prod.mk.injEq] at H
     obtain ⟨rfl, rfl, rfl⟩ := H
     go_wp2_with (first | ((with_reducible refine gate_callee (f := 114) rfl ?_); refine goesL_ (some 30) rfl rfl Tryd.func114 (by kernel_rfl) rfl #[.string a0] rfl tm ?_; (with_reducible refine (name_Runes.calls a0 t106 _ A13.out).mono ?_); rintro e w15 ⟨rfl, hb⟩; refine ⟨_, rfl, ?_⟩; replace HB := Aside0.mk (below_step (tg HB.out) hb); (try clear hb)))
     go_ret3
     exact ⟨te, tg HB.out⟩
    ·rw [if_neg c14] at H
     have c14b0 : decide (24 < t106) = false := decide_eq_false c14
     clear c14
     simp only [Option.some.injEq, Prod.mk.injEq] at H
     obtain ⟨rfl, rfl, rfl⟩ := H
     go_wp2_with (first | ((with_reducible refine gate_callee (f := 114) rfl ?_); refine goesL_ (some 30) rfl rfl Tryd.func114 (by kernel_rfl) rfl #[.string a0] rfl tm ?_; (with_reducible refine (name_Runes.calls a0 t106 _ A13.out).mono ?_); rintro e w16 ⟨rfl, hb⟩; refine ⟨_, rfl, ?_⟩; replace HB := Aside0.mk (below_step (tg HB.out) hb); (try clear hb)))
     go_ret3
     exact ⟨te, tg HB.out⟩

end Go.Proofs.YtiphindialkmnaaDoor.X
end
section
namespace Go.Proofs.YtiphindialkmnaaDoor.X
open Go.RowKit Go.Proofs.YtiphindialkmnaaDoorW.PrintWords Go.Proofs.YtiphindialkmnaaDoorW.PrintLast Go.Proofs.YtiphindialkmnaaDoorW.PrintMore
attribute [local go_sem] max2_int min2_int max_two min_two max_three min_three max_four min_four
set_option linter.unusedVariables false
set_option linter.unusedSimpArgs false

/-! ### name_Check: function 55 -/
def name_Check.f (k : Nat) (a0 : ByteArray) : Option (Int) := (name_Split.f k a0).bind fun bt101 => (some bt101.2.2)
theorem name_Check.mono : ∀ a0 k, LeO (name_Check.f k a0) (name_Check.f (k + 1) a0) := by
 intro a0 k
 unfold name_Check.f
 repeat' first
   | (with_reducible exact name_Split.mono _ _)
   | (with_reducible exact LeO.refl _)
   | (with_reducible exact LeO.none _)
   | (with_reducible refine LeO.ite ?_ ?_)
   | (with_reducible refine LeO.bind ?_ (fun _ => ?_))
set_option maxHeartbeats 8000000 in
set_option maxRecDepth 100000 in
theorem name_Check.calls (k : Nat) (a0 : ByteArray) (r : Int) (w : World) (hG : Glob w) (h : name_Check.f k a0 = some r) :
  Calls Tryd.prog 55 #[.string a0] w fun e w' => e = .returned (.int .i64 r) ∧ Below w.heap.size w w' := by
 have HG := Aside0.mk hG
 clear hG
 have HB := Aside0.mk (Below.refl w.heap.size w)
 have H : ((name_Split.f k a0).bind fun bt101 => (some bt101.2.2)) = some r := h
 clear h
 replace H := Option.bind_eq_some_iff.mp H
 obtain ⟨⟨t101, t102, t103⟩, A20, H⟩ := H
 replace H : (some t103) = some r := H
 have A2 := Aside0.mk A20
 clear A20
 obtain rfl := Option.some.inj H
 go_enter Tryd.func55, Tryd.ntmps55
 go_wp2_with (first | ((with_reducible refine gate_callee (f := 92) rfl ?_); refine goesL_ (some 8) rfl rfl Tryd.func92 (by kernel_rfl) rfl #[.string a0] rfl tm ?_; (with_reducible refine (name_Split.calls k a0 t101 t102 t103 _ (by first | exact HG.out | exact Glob.below HG.out (tg HB.out)) A2.out).mono ?_); rintro e w3 ⟨rfl, hb⟩; refine ⟨_, rfl, ?_⟩; replace HB := Aside0.mk (below_step (tg HB.out) hb); (try clear hb)))
 go_ret
 exact ⟨te, tg HB.out⟩

end Go.Proofs.YtiphindialkmnaaDoor.X
end
section
namespace Go.Proofs.YtiphindialkmnaaDoor.X
open Go.RowKit Go.Lib Go.Proofs.YtiphindialkmnaaDoorW.PrintWords Go.Proofs.YtiphindialkmnaaDoorW.PrintLast Go.Proofs.YtiphindialkmnaaDoorW.PrintMore
set_option linter.unusedVariables false
set_option linter.unusedSimpArgs false
set_option maxRecDepth 100000
def texts.g (k : Nat) (l : List ByteArray) : Nat → Nat → Option (Option Nat)
  | 0, i => if i < l.length then none else some none
  | d + 1, i => if i < l.length then ((name_Check.f k (rdOf ByteArray.empty l (i : Int))).bind fun e => if e = 0 then texts.g k l d (i + 1) else some (some i)) else some none
def valid_texts.f (k : Nat) (a0 : ByteArray) (l1 l2 : List ByteArray) (l3 l4 : List Int) (l5 : List S43) : Option (Int × Int) :=
  if l1.length ≤ 1000 ∧ l2.length ≤ 1000 then
    ((texts.g k (a0 :: l1) (l1.length + 1) 0).bind fun o => match o with
      | some i => some (2, (i : Int))
      | none => (texts.g k l2 l2.length 0).bind fun o => match o with
        | some i => some (2, 9 + (i : Int))
        | none => (valid_repeated.f k l1).bind fun i => if 0 ≤ i then some (3, i) else
          (valid_repeated.f k l2).bind fun i => if 0 ≤ i then (if i ≤ 100000 then some (3, 8 + i) else none) else some (0, 0))
  else none
theorem texts.g_mono (k : Nat) (l : List ByteArray) : ∀ d i, LeO (texts.g k l d i) (texts.g (k + 1) l d i)
  | 0, i => LeO.refl _
  | d + 1, i => by
    simp only [texts.g]
    refine LeO.ite (LeO.bind (name_Check.mono _ _) (fun _ => LeO.ite (texts.g_mono k l d (i + 1)) (LeO.refl _))) (LeO.refl _)
theorem valid_texts.mono : ∀ a0 l1 l2 l3 l4 l5 k, LeO (valid_texts.f k a0 l1 l2 l3 l4 l5) (valid_texts.f (k + 1) a0 l1 l2 l3 l4 l5) := by
  intro a0 l1 l2 l3 l4 l5 k
  unfold valid_texts.f
  refine LeO.ite (LeO.bind (texts.g_mono _ _ _ _) (fun o => ?_)) (LeO.refl _)
  cases o with
  | some i => exact LeO.refl _
  | none =>
    refine LeO.bind (texts.g_mono _ _ _ _) (fun o => ?_)
    cases o with
    | some i => exact LeO.refl _
    | none => exact LeO.bind (valid_repeated.mono _ _) (fun i => LeO.ite (LeO.refl _) (LeO.bind (valid_repeated.mono _ _) (fun _ => LeO.refl _)))
set_option maxHeartbeats 8000000 in
theorem valid_texts.calls (k : Nat) (a0 : ByteArray) (A1 : Option Addr) (c1 : Nat) (l1 : List ByteArray) (A2 : Option Addr) (c2 : Nat) (l2 : List ByteArray) (A3 : Option Addr) (c3 : Nat) (l3 : List Int) (A4 : Option Addr) (c4 : Nat) (l4 : List Int) (A5 : Option Addr) (c5 : Nat) (l5 : List S43) (r1 r2 : Int) (w : World) (hG : Glob w)
    (hr1 : Kd.C Kd.string w A1 l1.length l1) (hc1 : l1.length ≤ c1) (hr2 : Kd.C Kd.string w A2 l2.length l2) (hc2 : l2.length ≤ c2) (hr3 : Kd.C (Kd.int .u32) w A3 l3.length l3) (hc3 : l3.length ≤ c3) (hr4 : Kd.C (Kd.int .u32) w A4 l4.length l4) (hc4 : l4.length ≤ c4) (hr5 : Kd.C k43 w A5 l5.length l5) (hc5 : l5.length ≤ c5)
    (h : valid_texts.f k a0 l1 l2 l3 l4 l5 = some (r1, r2)) :
    Calls Tryd.prog 38 #[.agg #[.string a0, .slice A1 l1.length c1, .slice A2 l2.length c2, .slice A3 l3.length c3, .slice A4 l4.length c4, .slice A5 l5.length c5]] w fun e w' => e = .returned (.tuple #[.int .u8 r1, .int .i64 r2]) ∧ Below w.heap.size w w' := by
  unfold valid_texts.f at h
  by_cases hsz : l1.length ≤ 1000 ∧ l2.length ≤ 1000
  case neg => rw [if_neg hsz] at h; cases h
  rw [if_pos hsz] at h
  obtain ⟨o1, hA, h⟩ := Option.bind_eq_some_iff.1 h
  have HA := Aside0.mk hA
  have H := Aside0.mk h
  have HR1 := Aside0.mk hr1
  have HR2 := Aside0.mk hr2
  have HG := Aside0.mk hG
  clear hA h hr1 hr2 hr3 hr4 hr5 hG
  go_enter Tryd.func38, Tryd.ntmps38
  go_wp2_with fail
  obtain ⟨w1, hw1⟩ : ∃ w1, w1 = (((w.alloc (Obj.cells #[Value.string a0, Value.slice A1 l1.length c1, Value.slice A2 l2.length c2, Value.slice A3 l3.length c3, Value.slice A4 l4.length c4, Value.slice A5 l5.length c5] 26)).alloc (Obj.cells #[Value.string a0] 9)).alloc (Obj.cells #[Value.slice (some { block := w.heap.size + 1, off := 0 }) 1 1, Value.slice A1 l1.length c1] 22)) := ⟨_, rfl⟩
  have HB1 := Aside0.mk (show Below w.heap.size w w1 from hw1 ▸ below_alloc (below_alloc (below_alloc (Below.refl _ _) _) _) _)
  have HK1 := Aside0.mk (show w1.heap[w.heap.size]? = some _ from hw1 ▸ blk_alloc (blk_alloc (heap_alloc_new w _) _) _)
  have hs1 : (w.alloc (Obj.cells #[Value.string a0, Value.slice A1 l1.length c1, Value.slice A2 l2.length c2, Value.slice A3 l3.length c3, Value.slice A4 l4.length c4, Value.slice A5 l5.length c5] 26)).heap.size = w.heap.size + 1 := by simp
  have hk2 : w1.heap[w.heap.size + 1]? = some (Obj.cells #[Value.string a0] 9) := by
    rw [hw1]
    refine blk_alloc ?_ _
    rw [← hs1]
    exact heap_alloc_new _ _
  have hk3 : w1.heap[w.heap.size + 1 + 1]? = some (Obj.cells #[Value.slice (some { block := w.heap.size + 1, off := 0 }) 1 1, Value.slice A1 l1.length c1] 22) := by
    rw [hw1]
    have := heap_alloc_new ((w.alloc (Obj.cells #[Value.string a0, Value.slice A1 l1.length c1, Value.slice A2 l2.length c2, Value.slice A3 l3.length c3, Value.slice A4 l4.length c4, Value.slice A5 l5.length c5] 26)).alloc (Obj.cells #[Value.string a0] 9)) (Obj.cells #[Value.slice (some { block := w.heap.size + 1, off := 0 }) 1 1, Value.slice A1 l1.length c1] 22)
    simpa using this
  have hcc : Kd.C Kd.string w1 (some ⟨w.heap.size + 1, 0, none⟩) 1 [a0] := by
    refine Kd.C_of_reads (enc := Value.string) (d := ByteArray.empty) ⟨rfl, by decide, fun _ => ⟨_, rfl, fun j hj => ?_⟩⟩
    obtain rfl : j = 0 := by omega
    exact (blk_cell hk2 0).trans rfl
  rw [← hw1]
  clear hw1 hs1
  refine (Concat2.calls ⟨w.heap.size + 1 + 1, 0, none⟩ _ 1 [a0] A1 c1 l1 w1 ((blk_cell hk3 0).trans rfl) ((blk_cell hk3 1).trans rfl) hcc (Kd.C_below HR1.out HB1.out) (by simp) hsz.1).mono ?_
  rintro e w2 ⟨v, rfl, hv, hb2⟩
  obtain ⟨la, hla⟩ : ∃ la, la = [a0] ++ l1 := ⟨_, rfl⟩
  have hll : la.length = l1.length + 1 := by rw [hla]; simp
  have HA' := HA.out
  rw [← hll, show a0 :: l1 = la from hla.symm] at HA'
  have HA := Aside0.mk HA'
  clear HA'
  rw [← hla] at hv
  clear hla
  obtain ⟨A, c, rfl, hlc, hC⟩ := Kd.R_reads hv
  have HC := Aside0.mk hC
  have HB2 := Aside0.mk (below_step HB1.out hb2)
  have HK2 := Aside0.mk (blk_below HK1.out hb2)
  clear hb2 hv hC hcc hk2 hk3 HB1 HK1
  go_wp2_with fail
  go_loopw [5, 6, 20] (fun _ _ n wr => ∃ (i d : Nat), n = .int .i64 i ∧ i ≤ la.length ∧ Aside0 (texts.g k la d i = some o1) ∧ la.length ≤ i + d ∧ Aside0 (Below w2.heap.size w2 wr)) (fun _ _ n _ => la.length - (RowKit.intOf n).toNat)
  case atStart => exact ⟨0, la.length, rfl, Nat.zero_le _, HA, by omega, ⟨Below.refl _ _⟩⟩
  case round =>
    obtain ⟨i, d, rfl, hi, HI, hd, HL⟩ := hrel
    by_cases hlt : i < la.length
    · have HCr := Aside0.mk (Kd.C_below HC.out HL.out)
      obtain ⟨ad, e1, hx⟩ := Kd.at_string HCr.out (i : Int) (by omega) (by omega)
      simp only [Int.toNat_natCast] at hx
      have hd1 : decide ((i : Int) < (la.length : Int)) = true := decide_eq_true (by omega)
      cases d with
      | zero => omega
      | succ d =>
      have hI := HI.out
      simp only [texts.g, if_pos hlt] at hI
      obtain ⟨e0, he0, hI⟩ := Option.bind_eq_some_iff.1 hI
      have HE := Aside0.mk he0
      have HI := Aside0.mk hI
      clear hI he0
      cases e1
      go_wp2_with fail
      refine (name_Check.calls k _ e0 wr (HG.out.below (below_step HB2.out HL.out)) HE.out).mono ?_
      rintro e w3 ⟨rfl, hb3⟩
      have HL3 := Aside0.mk (below_step HL.out hb3)
      clear hb3 HL
      have hI := HI.out
      by_cases h0 : e0 = 0
      · subst h0
        rw [if_pos rfl] at hI
        have HI := Aside0.mk hI
        clear hI
        go_wp2
        go_roundw
        case rel => exact ⟨i + 1, d, by go_num, by omega, HI, by omega, HL3⟩
        case measure => simp [RowKit.intOf]; omega
      · rw [if_neg h0] at hI
        have h0b : (e0 == 0) = false := by simpa using h0
        have hdn : decide (e0 = 0) = false := decide_eq_false h0
        obtain rfl := Option.some.inj hI
        have hh := H.out
        simp only [Option.some.injEq, Prod.mk.injEq] at hh
        obtain ⟨rfl, rfl⟩ := hh
        go_wp2
        go_ret2
        exact ⟨rfl, below_step HB2.out HL3.out⟩
    · have hI := HI.out
      have hI : o1 = none := by
        cases d <;> (simp only [texts.g, if_neg hlt] at hI; exact (Option.some.inj hI).symm)
      subst hI
      have hd2 : decide ((i : Int) < (la.length : Int)) = false := decide_eq_false (by omega)
      obtain ⟨o2, hA, h⟩ := Option.bind_eq_some_iff.1 H.out
      have HA := Aside0.mk hA
      have H := Aside0.mk h
      have HK3 := Aside0.mk (blk_below HK2.out HL.out)
      have HB3 := Aside0.mk (below_step HB2.out HL.out)
      clear HK2 HB2 HC h hA
      have HR2 := Aside0.mk (Kd.C_below HR2.out HB3.out)
      have HR1 := Aside0.mk (Kd.C_below HR1.out HB3.out)
      have HG := Aside0.mk (HG.out.below HB3.out)
      clear HL HI
      obtain ⟨w4, hw4⟩ : ∃ w4, w4 = wr := ⟨_, rfl⟩
      subst hw4
      have hz2 : w4.cell? ⟨w.heap.size, 2, none⟩ = some (.slice A2 l2.length c2) := (blk_cell HK3.out 2).trans rfl
      go_wp2_with fail
      go_loopw [7, 8, 33] (fun _ _ n wr => ∃ (i d : Nat), n = .int .i64 i ∧ i ≤ l2.length ∧ Aside0 (texts.g k l2 d i = some o2) ∧ l2.length ≤ i + d ∧ Aside0 (Below w4.heap.size w4 wr)) (fun _ _ n _ => l2.length - (RowKit.intOf n).toNat)
      case atStart => exact ⟨0, l2.length, rfl, Nat.zero_le _, HA, by omega, ⟨Below.refl _ _⟩⟩
      case round =>
        obtain ⟨i, d, rfl, hi, HI, hd, HL⟩ := hrel
        by_cases hlt : i < l2.length
        · have HCr := Aside0.mk (Kd.C_below HR2.out HL.out)
          obtain ⟨ad, e1, hx⟩ := Kd.at_string HCr.out (i : Int) (by omega) (by omega)
          simp only [Int.toNat_natCast] at hx
          have hd1 : decide ((i : Int) < (l2.length : Int)) = true := decide_eq_true (by omega)
          cases d with
          | zero => omega
          | succ d =>
          have hI := HI.out
          simp only [texts.g, if_pos hlt] at hI
          obtain ⟨e0, he0, hI⟩ := Option.bind_eq_some_iff.1 hI
          have HE := Aside0.mk he0
          have HI := Aside0.mk hI
          clear hI he0
          cases e1
          go_wp2_with fail
          refine (name_Check.calls k _ e0 wr (HG.out.below HL.out) HE.out).mono ?_
          rintro e w3 ⟨rfl, hb3⟩
          have HL3 := Aside0.mk (below_step HL.out hb3)
          clear hb3 HL
          have hI := HI.out
          by_cases h0 : e0 = 0
          · subst h0
            rw [if_pos rfl] at hI
            have HI := Aside0.mk hI
            clear hI
            go_wp2
            go_roundw
            case rel => exact ⟨i + 1, d, by go_num, by omega, HI, by omega, HL3⟩
            case measure => simp [RowKit.intOf]; omega
          · rw [if_neg h0] at hI
            have h0b : (e0 == 0) = false := by simpa using h0
            have hdn : decide (e0 = 0) = false := decide_eq_false h0
            obtain rfl := Option.some.inj hI
            have hh := H.out
            simp only [Option.some.injEq, Prod.mk.injEq] at hh
            obtain ⟨rfl, rfl⟩ := hh
            have hw9 : 9 + (i : Int) = 9 + (i : Int) := rfl
            go_wp2
            go_ret2
            exact ⟨rfl, below_step HB3.out HL3.out⟩
        · have hI := HI.out
          have hI : o2 = none := by
            cases d <;> (simp only [texts.g, if_neg hlt] at hI; exact (Option.some.inj hI).symm)
          subst hI
          have hd2 : decide ((i : Int) < (l2.length : Int)) = false := decide_eq_false (by omega)
          obtain ⟨n3, hA, h⟩ := Option.bind_eq_some_iff.1 H.out
          have HA := Aside0.mk hA
          have H := Aside0.mk h
          have HK3 := Aside0.mk (blk_below HK3.out HL.out)
          have HB3 := Aside0.mk (below_step HB3.out HL.out)
          have HR2 := Aside0.mk (Kd.C_below HR2.out HL.out)
          have HR1 := Aside0.mk (Kd.C_below HR1.out HL.out)
          clear h hA HG HL HI
          have hz1 : wr.cell? ⟨w.heap.size, 1, none⟩ = some (.slice A1 l1.length c1) := (blk_cell HK3.out 1).trans rfl
          go_wp2_with fail
          refine (valid_repeated.calls k A1 c1 l1 n3 wr HR1.out hc1 HA.out).mono ?_
          rintro e w5 ⟨rfl, hd5⟩
          have hb5 := hd5.below
          have HK3 := Aside0.mk (blk_below HK3.out hb5)
          have HR2 := Aside0.mk (Kd.C_below HR2.out hb5)
          have HB3 := Aside0.mk (below_step HB3.out hb5)
          clear hb5 hd5 HR1 HA
          have h := H.out
          by_cases h3 : 0 ≤ n3
          · rw [if_pos h3] at h
            simp only [Option.some.injEq, Prod.mk.injEq] at h
            obtain ⟨rfl, rfl⟩ := h
            have h3b : decide (n3 ≥ 0) = true := decide_eq_true h3
            have h3c : decide (0 ≤ n3) = true := decide_eq_true h3
            go_wp2
            go_ret2
            exact ⟨rfl, HB3.out⟩
          · rw [if_neg h3] at h
            have h3b : decide (n3 ≥ 0) = false := decide_eq_false h3
            have h3c : decide (0 ≤ n3) = false := decide_eq_false h3
            obtain ⟨n4, hA, h⟩ := Option.bind_eq_some_iff.1 h
            have HA := Aside0.mk hA
            have H := Aside0.mk h
            clear h hA
            have hz2 : w5.cell? ⟨w.heap.size, 2, none⟩ = some (.slice A2 l2.length c2) := (blk_cell HK3.out 2).trans rfl
            go_wp2_with fail
            refine (valid_repeated.calls k A2 c2 l2 n4 w5 HR2.out hc2 HA.out).mono ?_
            rintro e w6 ⟨rfl, hd6⟩
            have hb6 := hd6.below
            have HB3 := Aside0.mk (below_step HB3.out hb6)
            clear hb6 hd6
            have h := H.out
            by_cases h4 : 0 ≤ n4
            · rw [if_pos h4] at h
              by_cases h5 : n4 ≤ 100000
              case neg => rw [if_neg h5] at h; cases h
              rw [if_pos h5] at h
              simp only [Option.some.injEq, Prod.mk.injEq] at h
              obtain ⟨rfl, rfl⟩ := h
              have h4b : decide (n4 ≥ 0) = true := decide_eq_true h4
              have h4c : decide (0 ≤ n4) = true := decide_eq_true h4
              go_wp2
              go_ret2
              exact ⟨rfl, HB3.out⟩
            · rw [if_neg h4] at h
              have h4b : decide (n4 ≥ 0) = false := decide_eq_false h4
              have h4c : decide (0 ≤ n4) = false := decide_eq_false h4
              simp only [Option.some.injEq, Prod.mk.injEq] at h
              obtain ⟨rfl, rfl⟩ := h
              go_wp2
              go_ret2
              exact ⟨rfl, HB3.out⟩
end Go.Proofs.YtiphindialkmnaaDoor.X
end
section
namespace Go.Proofs.YtiphindialkmnaaDoor.X
open Go.RowKit Go.Proofs.YtiphindialkmnaaDoorW.PrintWords Go.Proofs.YtiphindialkmnaaDoorW.PrintLast Go.Proofs.YtiphindialkmnaaDoorW.PrintMore
set_option linter.unusedSimpArgs false
set_option linter.unusedVariables false
def Tot {α : Type} (o : Option α) : Prop := ∃ r, o = some r
theorem Tot.some {α : Type} (r : α) : Tot (some r) := ⟨r, rfl⟩
theorem Tot.bind {α β : Type} {o : Option α} {g : α → Option β} (h : Tot o) (hg : ∀ r, Tot (g r)) : Tot (o.bind g) := by
  obtain ⟨r, rfl⟩ := h
  exact hg r
theorem Tot.ite {α : Type} {c : Prop} [Decidable c] {a b : Option α} (ha : Tot a) (hb : Tot b) : Tot (if c then a else b) := by
  split
  · exact ha
  · exact hb
theorem Tot.itep {α : Type} {c : Prop} [Decidable c] {a b : Option α} (hc : c) (ha : Tot a) : Tot (if c then a else b) := by
  rw [if_pos hc]; exact ha
theorem tot_may (a b : Int) : Tot (word_may.f a b) := by
  unfold word_may.f
  exact Tot.ite (Tot.ite (Tot.ite (Tot.some _) (Tot.some _)) (Tot.some _)) (Tot.some _)
theorem tot_mask (a : Int) (h : 0 ≤ a) : Tot (word_mask.f a) := Tot.itep h (Tot.some _)
theorem tot_Bits (x a b : Int) (ha : 0 ≤ a) (hb : 0 ≤ b) : Tot (word_Bits.f x a b) :=
  Tot.bind (tot_may _ _) (fun _ => Tot.ite (Tot.itep ha (Tot.bind (tot_mask _ hb) (fun _ => Tot.some _))) (Tot.some _))
theorem tot_With (x a b y : Int) (ha : 0 ≤ a) (hb : 0 ≤ b) : Tot (word_With.f x a b y) :=
  Tot.bind (tot_may _ _) (fun _ => Tot.ite (Tot.bind (tot_mask _ hb) (fun _ => Tot.itep ha (Tot.some _))) (Tot.some _))
theorem tot_Uses (k : Nat) (x : Int) : Tot (isa_Uses.f (k + 3) x) := by
  unfold isa_Uses.f
  simp only [isa_Uses.j0, isa_Uses.j1, isa_Uses.j2]
  repeat' first
    | exact Tot.some _
    | refine Tot.ite ?_ ?_
theorem tot_Fits (x : Int) : Tot (word_Fits.f x 21) := by
  unfold word_Fits.f
  refine Tot.ite (Tot.some _) (Tot.ite (Tot.some _) (Tot.itep (by rw [w64 _ (by omega)]; omega) (Tot.ite (Tot.some _) (Tot.some _))))
theorem tot_Check (k : Nat) (a b c d e : Int) : Tot (isa_Check.f (k + 3) a b c d e) := by
  unfold isa_Check.f isa_UsesB.f
  simp only [isa_Check.j0, isa_Check.j1, isa_Check_1.f]
  repeat' first
    | exact Tot.some _
    | exact tot_Uses _ _
    | exact tot_Fits _
    | refine Tot.ite ?_ ?_
    | refine Tot.bind ?_ (fun _ => ?_)
theorem tot_Encode (k : Nat) (a b c d e : Int) : Tot (isa_Encode.f (k + 3) a b c d e) := by
  unfold isa_Encode.f word_Cut.f
  refine Tot.bind (tot_Check _ _ _ _ _ _) (fun _ => Tot.ite (Tot.bind (Tot.ite (Tot.some _) (Tot.bind (tot_mask _ (by decide)) (fun _ => Tot.some _))) (fun _ => ?_)) (Tot.some _))
  exact Tot.bind (tot_With _ _ _ _ (by decide) (by decide)) (fun _ => Tot.bind (tot_With _ _ _ _ (by decide) (by decide)) (fun _ => Tot.bind (tot_With _ _ _ _ (by decide) (by decide)) (fun _ => Tot.some _)))
theorem tot_Signed (x : Int) : Tot (word_Signed.f x 21) := by
  unfold word_Signed.f
  exact Tot.ite (Tot.some _) (Tot.ite (Tot.some _) (Tot.itep (by rw [w64 _ (by omega)]; omega) (Tot.some _)))
theorem tot_Decode (k : Nat) (x : Int) : Tot (isa_Decode.f (k + 3) x) := by
  unfold isa_Decode.f isa_UsesB.f
  repeat' first
    | exact Tot.some _
    | exact tot_Uses _ _
    | exact tot_Encode _ _ _ _ _ _
    | exact tot_Signed _
    | exact tot_Bits _ _ _ (by decide) (by decide)
    | refine Tot.ite ?_ ?_
    | refine Tot.bind ?_ (fun _ => ?_)
/-- what the decoder answers -/
def dec (x : Int) : Int × Int × Int × Int × Int × Int := (isa_Decode.f 3 x).getD (0, 0, 0, 0, 0, 0)
theorem dec_at {k : Nat} (hk : 3 ≤ k) (x : Int) : isa_Decode.f k x = some (dec x) := by
  obtain ⟨r, hr⟩ := tot_Decode 0 x
  have : dec x = r := by unfold dec; rw [hr]; rfl
  rw [this]
  exact lift_mono (fun k => isa_Decode.mono x k) hr hk
end Go.Proofs.YtiphindialkmnaaDoor.X
end
section
namespace Go.Proofs.YtiphindialkmnaaDoor.X
open Go.RowKit Go.Proofs.YtiphindialkmnaaDoorW.PrintWords Go.Proofs.YtiphindialkmnaaDoorW.PrintLast Go.Proofs.YtiphindialkmnaaDoorW.PrintMore
set_option linter.unusedSimpArgs false
set_option linter.unusedVariables false
noncomputable instance memBA (s : ByteArray) (l : List ByteArray) : Decidable (s ∈ l) := Classical.propDecidable _
/-- the first of d places from i on that p holds of -/
def first (p : Nat → Bool) : Nat → Nat → Option Nat
  | 0, _ => none
  | d + 1, i => if p i = true then some i else first p d (i + 1)
theorem first_none {p : Nat → Bool} : ∀ {d i : Nat}, first p d i = none ↔ ∀ j, i ≤ j → j < i + d → p j = false
  | 0, i => by simp [first]; intro j h1 h2; omega
  | d + 1, i => by
    simp only [first]
    by_cases h : p i = true
    · rw [if_pos h]
      refine ⟨fun e => (by cases e), fun e => ?_⟩
      have := e i (Nat.le_refl _) (by omega)
      rw [h] at this; cases this
    · rw [if_neg h, first_none]
      constructor
      · intro e j h1 h2
        by_cases hj : j = i
        · subst hj; simpa using h
        · exact e j (by omega) (by omega)
      · exact fun e j h1 h2 => e j (by omega) (by omega)
theorem first_some {p : Nat → Bool} : ∀ {d i j : Nat}, first p d i = some j → i ≤ j ∧ j < i + d ∧ p j = true ∧ ∀ k, i ≤ k → k < j → p k = false
  | 0, i, j, h => by simp [first] at h
  | d + 1, i, j, h => by
    simp only [first] at h
    by_cases hp : p i = true
    · rw [if_pos hp] at h
      obtain rfl := Option.some.inj h
      exact ⟨Nat.le_refl _, by omega, hp, fun k h1 h2 => by omega⟩
    · rw [if_neg hp] at h
      obtain ⟨h1, h2, h3, h4⟩ := first_some h
      refine ⟨by omega, by omega, h3, fun k h5 h6 => ?_⟩
      by_cases hk : k = i
      · subst hk; simpa using hp
      · exact h4 k (by omega) h6
theorem first_congr {p q : Nat → Bool} : ∀ {d i : Nat}, (∀ j, i ≤ j → j < i + d → p j = q j) → first p d i = first q d i
  | 0, i, _ => rfl
  | d + 1, i, h => by
    simp only [first]
    rw [h i (Nat.le_refl _) (by omega), first_congr (fun j h1 h2 => h j (by omega) (by omega))]
/-- what the names' check answers -/
theorem index_range (s : ByteArray) (c : UInt8) : -1 ≤ Lib.indexByte s.data.toList c ∧ Lib.indexByte s.data.toList c < s.size := by
  refine ⟨Lib.indexByte_ge _ _, ?_⟩
  by_cases h : 0 ≤ Lib.indexByte s.data.toList c
  · obtain ⟨o, ho⟩ : ∃ o : Nat, Lib.indexByte s.data.toList c = o := ⟨(Lib.indexByte s.data.toList c).toNat, by omega⟩
    have := (Lib.indexByte_some ho).1
    have := (List.getElem?_eq_some_iff.1 this).1
    rw [ho]
    have e : s.data.toList.length = s.size := by rw [Array.length_toList]; rfl
    omega
  · have : (0 : Int) ≤ s.size := by omega
    omega
theorem tot_Cut (s : ByteArray) (hs : s.size ≤ 9223372036854775807) : Tot (strings_Cut.f s ⟨#[64]⟩) := by
  unfold strings_Cut.f stringslite_Cut.f stringslite_Index.f
  refine Tot.bind ?_ (fun _ => Tot.some _)
  have hr := index_range s 64
  have h1 : ((⟨#[64]⟩ : ByteArray).size : Int) = 1 := rfl
  show Tot ((some (Lib.indexByte s.data.toList 64)).bind _)
  simp only [Option.bind_some, h1]
  by_cases h : Lib.indexByte s.data.toList 64 ≥ 0
  · rw [if_pos h, if_pos h, if_pos (by omega), w64 _ (by omega), if_pos (by omega), if_pos (by omega)]
    exact Tot.some _
  · rw [if_neg h]
    exact Tot.some _
theorem tot_name (k : Nat) (s : ByteArray) (hs : s.size ≤ 9223372036854775807) : Tot (name_Check.f (k + 1) s) := by
  unfold name_Check.f name_Split.f
  simp only [name_Split.j0, name_Runes.f, name_isStem.f, name_version.f]
  repeat' first
    | exact Tot.some _
    | exact tot_Cut _ hs
    | refine Tot.ite ?_ ?_
    | refine Tot.bind ?_ (fun _ => ?_)
def nameE (s : ByteArray) : Int := (name_Check.f 1 s).getD 0
theorem name_at {k : Nat} (hk : 1 ≤ k) (s : ByteArray) (hs : s.size ≤ 9223372036854775807) : name_Check.f k s = some (nameE s) := by
  obtain ⟨r, hr⟩ := tot_name 0 s hs
  have : nameE s = r := by unfold nameE; rw [hr]; rfl
  rw [this]
  exact lift_mono (fun k => name_Check.mono s k) hr hk
/-- the texts' fault -/
def badName (l : List ByteArray) (i : Nat) : Bool := decide (nameE (l.getD i ByteArray.empty) ≠ 0)
noncomputable def dup (l : List ByteArray) (i : Nat) : Bool := decide (l.getD i ByteArray.empty ∈ l.take i)
theorem getD_mem {α : Type} {l : List α} {i : Nat} (d : α) (h : i < l.length) : l.getD i d ∈ l := by
  rw [List.getD_eq_getElem?_getD, List.getElem?_eq_getElem h]
  exact List.getElem_mem h
theorem texts_g (k : Nat) (hk : 1 ≤ k) (l : List ByteArray) (hs : ∀ s ∈ l, s.size ≤ 9223372036854775807) : ∀ (d i : Nat), i + d = l.length → texts.g k l d i = some (first (badName l) d i)
  | 0, i, h => by simp only [texts.g, first]; rw [if_neg (by omega)]
  | d + 1, i, h => by
    simp only [texts.g, first]
    rw [if_pos (by omega), rdOf_nat, name_at hk _ (hs _ (getD_mem _ (by omega)))]
    simp only [Option.bind_some]
    by_cases e : nameE (l.getD i ByteArray.empty) = 0
    · have eb : ¬ badName l i = true := fun h => of_decide_eq_true h e
      rw [if_pos e, if_neg eb, texts_g k hk l hs d (i + 1) (by omega)]
    · have eb : badName l i = true := decide_eq_true e
      rw [if_neg e, if_pos eb]
theorem index_law (l : List ByteArray) (s : ByteArray) (hl : l.length ≤ 2000) : ∀ (d i k : Nat), i + d = l.length → d < k → ∃ r, slices_Index_string_string.l0 k l s (l.length : Int) (i : Int) = some r ∧ (r ≥ 0 ↔ ∃ j, i ≤ j ∧ j < l.length ∧ l.getD j ByteArray.empty = s) := by
  intro d
  induction d with
  | zero =>
    intro i k h1 h2
    obtain ⟨k, rfl⟩ : ∃ k', k = k' + 1 := ⟨k - 1, by omega⟩
    simp only [slices_Index_string_string.l0]
    rw [if_neg (by omega)]
    exact ⟨_, rfl, ⟨fun h => by omega, fun ⟨j, h3, h4, _⟩ => by omega⟩⟩
  | succ d ih =>
    intro i k h1 h2
    obtain ⟨k, rfl⟩ : ∃ k', k = k' + 1 := ⟨k - 1, by omega⟩
    simp only [slices_Index_string_string.l0]
    rw [if_pos (by omega), if_pos (by omega), if_pos (by omega), rdOf_nat, w64 _ (by omega)]
    simp only [bytes_eq_iff]
    by_cases e : s = l.getD i ByteArray.empty
    · rw [if_pos e]
      exact ⟨_, rfl, ⟨fun _ => ⟨i, Nat.le_refl _, by omega, e.symm⟩, fun _ => by omega⟩⟩
    · rw [if_neg e]
      obtain ⟨r, hr1, hr2⟩ := ih (i + 1) k (by omega) (by omega)
      refine ⟨r, by simpa using hr1, ?_⟩
      rw [hr2]
      constructor
      · rintro ⟨j, h3, h4, h5⟩; exact ⟨j, by omega, h4, h5⟩
      · rintro ⟨j, h3, h4, h5⟩
        by_cases hj : j = i
        · subst hj; exact absurd h5.symm e
        · exact ⟨j, by omega, h4, h5⟩
theorem contains_law (l : List ByteArray) (s : ByteArray) (hl : l.length ≤ 2000) (k : Nat) (hk : l.length < k) : slices_Contains_string_string.f k l s = some (decide (s ∈ l)) := by
  unfold slices_Contains_string_string.f slices_Index_string_string.f
  obtain ⟨r, h1, h2⟩ := index_law l s hl l.length 0 k (by omega) hk
  have h1 : slices_Index_string_string.l0 k l s (l.length : Int) 0 = some r := h1
  rw [h1]
  simp only [Option.bind_some, Option.some.injEq]
  rw [Bool.eq_iff_iff, decide_eq_true_iff, h2, decide_eq_true_iff]
  constructor
  · rintro ⟨j, _, hj, rfl⟩; exact getD_mem _ hj
  · intro hm
    obtain ⟨j, hj, e⟩ := List.getElem_of_mem hm
    exact ⟨j, Nat.zero_le _, hj, by rw [List.getD_eq_getElem?_getD, List.getElem?_eq_getElem hj, e]; rfl⟩
def optI (o : Option Nat) : Int := match o with | some i => i | none => -1
theorem repeated_l (l : List ByteArray) (hl : l.length ≤ 2000) : ∀ (d i k : Nat), i + d = l.length → d + l.length < k → valid_repeated.l0 k l l (l.length : Int) (i : Int) = some (optI (first (dup l) d i)) := by
  intro d
  induction d with
  | zero =>
    intro i k h1 h2
    obtain ⟨k, rfl⟩ : ∃ k', k = k' + 1 := ⟨k - 1, by omega⟩
    simp only [valid_repeated.l0, first]
    rw [if_neg (by omega)]
    rfl
  | succ d ih =>
    intro i k h1 h2
    obtain ⟨k, rfl⟩ : ∃ k', k = k' + 1 := ⟨k - 1, by omega⟩
    simp only [valid_repeated.l0, first]
    rw [if_pos (by omega), if_pos (by omega), if_pos (by omega), if_pos (by omega), rdOf_nat, w64 _ (by omega)]
    simp only [Int.toNat_natCast]
    rw [contains_law _ _ (by rw [List.length_take]; omega) k (by rw [List.length_take]; omega)]
    simp only [Option.bind_some]
    by_cases e : dup l i = true
    · rw [if_pos e]
      unfold dup at e
      rw [if_pos e]
      rfl
    · rw [if_neg e]
      unfold dup at e
      rw [if_neg e]
      exact ih (i + 1) k (by omega) (by omega)
theorem repeated_law (l : List ByteArray) (hl : l.length ≤ 2000) (k : Nat) (hk : 2 * l.length < k) : valid_repeated.f k l = some (optI (first (dup l) l.length 0)) :=
  repeated_l l hl l.length 0 k (by omega) (by omega)
noncomputable def vTexts (a0 : ByteArray) (l1 l2 : List ByteArray) : Int × Int :=
  match first (badName (a0 :: l1)) (l1.length + 1) 0 with
  | some i => (2, (i : Int))
  | none => match first (badName l2) l2.length 0 with
    | some i => (2, 9 + (i : Int))
    | none => match first (dup l1) l1.length 0 with
      | some i => (3, (i : Int))
      | none => match first (dup l2) l2.length 0 with
        | some i => (3, 8 + (i : Int))
        | none => (0, 0)
theorem texts_law (k : Nat) (a0 : ByteArray) (l1 l2 : List ByteArray) (l3 l4 : List Int) (l5 : List S43) (h0 : a0.size ≤ 9223372036854775807) (hs1 : ∀ s ∈ l1, s.size ≤ 9223372036854775807) (hs2 : ∀ s ∈ l2, s.size ≤ 9223372036854775807) (hl1 : l1.length ≤ 1000) (hl2 : l2.length ≤ 1000) (hk : 2001 ≤ k) :
    valid_texts.f k a0 l1 l2 l3 l4 l5 = some (vTexts a0 l1 l2) := by
  unfold valid_texts.f vTexts
  rw [if_pos ⟨hl1, hl2⟩, texts_g k (by omega) (a0 :: l1) (fun s hs => by
    rcases List.mem_cons.1 hs with rfl | hs
    · exact h0
    · exact hs1 s hs) (l1.length + 1) 0 (by simp), texts_g k (by omega) l2 hs2 l2.length 0 (by omega), repeated_law l1 (by omega) k (by omega), repeated_law l2 (by omega) k (by omega)]
  simp only [Option.bind_some]
  cases first (badName (a0 :: l1)) (l1.length + 1) 0 with
  | some i => rfl
  | none =>
    simp only
    cases first (badName l2) l2.length 0 with
    | some i => rfl
    | none =>
      simp only
      cases h1 : first (dup l1) l1.length 0 with
      | some i =>
        simp only
        rw [if_pos (show (0 : Int) ≤ optI (some i) from Int.natCast_nonneg i)]
        rfl
      | none =>
        simp only
        rw [if_neg (show ¬ (0 : Int) ≤ optI none by decide)]
        cases h2 : first (dup l2) l2.length 0 with
        | some i =>
          have := first_some h2
          simp only
          rw [if_pos (show (0 : Int) ≤ optI (some i) from Int.natCast_nonneg i), if_pos (show optI (some i) ≤ 100000 by show (i : Int) ≤ 100000; omega)]
          rfl
        | none =>
          simp only
          rw [if_neg (show ¬ (0 : Int) ≤ optI none by decide)]
end Go.Proofs.YtiphindialkmnaaDoor.X
end
section
namespace Go.Proofs.YtiphindialkmnaaDoor.X
open Go.RowKit Go.Proofs.YtiphindialkmnaaDoorW.PrintWords Go.Proofs.YtiphindialkmnaaDoorW.PrintLast Go.Proofs.YtiphindialkmnaaDoorW.PrintMore
set_option linter.unusedSimpArgs false
set_option linter.unusedVariables false
/-- which parts an operation uses -/
def uses (x : Int) : Bool × Bool × Bool × Bool := (isa_Uses.f 3 x).getD (false, false, false, false)
theorem uses_fin : ∀ n : Fin 256, isa_Uses.f 3 ((n : Nat) : Int) = some (uses ((n : Nat) : Int)) := by decide +kernel
theorem uses_at {k : Nat} (hk : 3 ≤ k) {x : Int} (h0 : 0 ≤ x) (h1 : x < 256) : isa_Uses.f k x = some (uses x) := by
  obtain ⟨n, rfl⟩ := Int.eq_ofNat_of_zero_le h0
  exact lift_mono (fun k => isa_Uses.mono (n : Int) k) (uses_fin ⟨n, by omega⟩) hk
theorem Fits_at (x : Int) : word_Fits.f x 21 = some (decide (-1048576 ≤ x ∧ x ≤ 1048575)) := by
  unfold word_Fits.f
  rw [if_neg (by omega), if_neg (by omega), w64 _ (by omega), if_pos (by omega)]
  have e : shr .i64 x (21 - 1) = x / 1048576 := rfl
  rw [e]
  by_cases h : x / 1048576 = 0
  · rw [if_pos h, decide_eq_true (by omega)]
  · rw [if_neg h]
    by_cases h2 : x / 1048576 = -1
    · rw [decide_eq_true (by omega), h2]; rfl
    · rw [decide_eq_false (by omega), beq_eq_false_iff_ne.2 h2]
def regBad (r : Int) (u : Bool) : Bool := !(r == 0 || (u && decide (r < 8)))
def chk (o d a b i : Int) : Int :=
  if o > 21 ∨ regBad d (uses o).1 = true ∨ regBad a (uses o).2.1 = true ∨ regBad b (uses o).2.2.1 = true ∨ ((uses o).2.2.2 = false ∧ i ≠ 0) then 10
  else if ¬ (-1048576 ≤ i ∧ i ≤ 1048575) then 11
  else if (o = 17 ∨ o = 21) ∧ i < 0 then 11
  else if o = 21 ∧ i > 63 then 11
  else 0
theorem reg_at (r : Int) (u : Bool) : isa_Check_1.f r u = some (!regBad r u) := by
  unfold isa_Check_1.f regBad
  by_cases h : r = 0
  · simp [h]
  · rw [if_neg h, beq_eq_false_iff_ne.2 h]
    cases u <;> simp
theorem isaCheck_at {k : Nat} (hk : 5 ≤ k) {o d a b i : Int} (h0 : 0 ≤ o) (h1 : o < 256) (hi : -2147483648 ≤ i ∧ i ≤ 2147483647) : isa_Check.f k o d a b i = some (chk o d a b i) := by
  obtain ⟨k, rfl⟩ : ∃ k', k = k' + 2 := ⟨k - 2, by omega⟩
  unfold isa_Check.f isa_UsesB.f chk
  rw [uses_at (by omega) h0 h1]
  simp only [Option.bind_some, reg_at]
  have hT : isa_Check.j0 (k + 2) true o d a b i = some 10 := by simp [isa_Check.j0]
  have hF : isa_Check.j0 (k + 2) false o d a b i = some (if ¬ (-1048576 ≤ i ∧ i ≤ 1048575) then 11 else if (o = 17 ∨ o = 21) ∧ i < 0 then 11 else if o = 21 ∧ i > 63 then 11 else 0) := by
    simp only [isa_Check.j0, Bool.false_eq_true, if_false, Fits_at, Option.bind_some, w64 i (by omega)]
    by_cases c : -1048576 ≤ i ∧ i ≤ 1048575
    · rw [decide_eq_true c, if_neg (show ¬ ¬ (-1048576 ≤ i ∧ i ≤ 1048575) from fun h => h c)]
      simp only [if_true, isa_Check.j1, Bool.false_eq_true, if_false]
      by_cases c17 : o = 17
      · subst c17
        by_cases cn : i < 0
        · simp [cn]
        · simp [cn]
      · by_cases c21 : o = 21
        · subst c21
          by_cases cn : i < 0
          · simp [cn]
          · by_cases cm : i > 63 <;> simp [cn, cm]
        · simp [c17, c21]
    · rw [decide_eq_false c, if_pos (show ¬ (-1048576 ≤ i ∧ i ≤ 1048575) from c)]
      simp
  by_cases c0 : o > 21
  · rw [if_pos c0, hT, if_pos (.inl c0)]
  rw [if_neg c0]
  cases c1 : regBad d (uses o).1
  case true => simp [hT]
  cases c2 : regBad a (uses o).2.1
  case true => simp [hT]
  cases c3 : regBad b (uses o).2.2.1
  case true => simp [hT]
  simp only [Bool.not_false, if_true]
  cases c4 : (uses o).2.2.2
  case true =>
    simp only [if_true, hF]
    rw [if_neg (show ¬ (o > 21 ∨ false = true ∨ false = true ∨ false = true ∨ (true = false ∧ i ≠ 0)) by simp; omega)]
  by_cases c5 : i = 0
  · have e : (i != 0) = false := by simp [c5]
    rw [if_neg (by simp), e, hF]
    congr 1
    rw [if_neg (show ¬ (o > 21 ∨ false = true ∨ false = true ∨ false = true ∨ (false = false ∧ i ≠ 0)) by simp; omega)]
  · have e : (i != 0) = true := by simp [c5]
    rw [if_neg (by simp), e, hT]
    simp [c5]
theorem uses_b_fin : ∀ n : Fin 256, (uses ((n : Nat) : Int)).2.2.1 = true → (uses ((n : Nat) : Int)).2.2.2 = false := by decide +kernel
theorem uses_b {o : Int} (h0 : 0 ≤ o) (h1 : o < 256) (h : (uses o).2.2.1 = true) : (uses o).2.2.2 = false := by
  obtain ⟨n, rfl⟩ := Int.eq_ofNat_of_zero_le h0
  exact uses_b_fin ⟨n, by omega⟩ h
def low (i : Int) : Nat := cut (i % 4294967296).toNat 0 21
theorem low_lt (i : Int) : low i < 2 ^ 21 := cut_lt _ _ _
theorem mod_nat (i : Int) : ∃ n : Nat, i % 4294967296 = (n : Int) ∧ n < 2 ^ 32 ∧ n = (i % 4294967296).toNat := ⟨(i % 4294967296).toNat, by omega, by omega, rfl⟩
theorem Cut_at (i : Int) : word_Cut.f i 21 = some ((low i : Nat) : Int) := by
  unfold word_Cut.f low
  obtain ⟨n, h1, h2, h3⟩ := mod_nat i
  have e : mn 21 32 = ((21 : Nat) : Int) := by decide +kernel
  rw [if_neg (by omega), e, mask_nat 21 (by omega), Option.bind_some, ← h3, h1, and_nat h2 (by decide), Nat.and_two_pow_sub_one_eq_mod]
  rfl
/-- the word of these parts -/
def enc (o d a l : Nat) : Nat := put (put (put l 27 5 o) 24 3 d) 21 3 a
theorem enc_lt (o d a : Nat) {l : Nat} (hl : l < 2 ^ 32) : enc o d a l < 2 ^ 32 := put_lt _ _ _ _ (put_lt _ _ _ _ (put_lt _ _ _ _ hl))
theorem enc_bit (o d a l m : Nat) (hl : l < 2 ^ 32) : (enc o d a l).testBit m = (decide (m < 32) && (if 21 ≤ m ∧ m < 24 then a.testBit (m - 21) else if 24 ≤ m ∧ m < 27 then d.testBit (m - 24) else if 27 ≤ m then o.testBit (m - 27) else l.testBit m)) := by
  unfold enc
  rw [put_bit _ _ _ _ _ (put_lt _ _ _ _ (put_lt _ _ _ _ hl)), put_bit _ _ _ _ _ (put_lt _ _ _ _ hl), put_bit _ _ _ _ _ hl]
  by_cases h1 : m < 32
  · rw [decide_eq_true h1, Bool.true_and, Bool.true_and, Bool.true_and, Bool.true_and]
    by_cases h2 : 21 ≤ m ∧ m < 24
    · rw [if_pos h2, if_pos h2]
    · rw [if_neg h2, if_neg h2]
      by_cases h3 : 24 ≤ m ∧ m < 27
      · rw [if_pos h3, if_pos h3]
      · rw [if_neg h3, if_neg h3]
        by_cases h4 : 27 ≤ m
        · rw [if_pos ⟨h4, by omega⟩, if_pos h4]
        · rw [if_neg (fun h => h4 h.1), if_neg h4]
  · rw [decide_eq_false h1, Bool.false_and, Bool.false_and]
def encV (o d a b i : Int) : Nat := enc o.toNat d.toNat a.toNat (low i ||| b.toNat)
theorem regBad_zero {r : Int} (h : regBad r false = false) : r = 0 := by
  unfold regBad at h
  simpa using h
theorem chk_parts {o d a b i : Int} (h : chk o d a b i = 0) : o ≤ 21 ∧ regBad d (uses o).1 = false ∧ regBad a (uses o).2.1 = false ∧ regBad b (uses o).2.2.1 = false ∧ ((uses o).2.2.2 = false → i = 0) ∧ -1048576 ≤ i ∧ i ≤ 1048575 := by
  unfold chk at h
  split at h
  · cases h
  · rename_i h1
    simp only [not_or, Bool.not_eq_true] at h1
    obtain ⟨h2, h3, h4, h5, h6⟩ := h1
    split at h
    · cases h
    · rename_i h7
      exact ⟨by omega, h3, h4, h5, fun e => by
        by_cases c : i = 0
        · exact c
        · exact absurd ⟨e, c⟩ h6, by omega, by omega⟩
theorem reg_lt {r : Int} {u : Bool} (h : regBad r u = false) : r < 8 := by
  unfold regBad at h
  cases u with
  | false => have : r = 0 := by simpa using h
             omega
  | true =>
    simp at h
    omega
theorem isaEncode_at {k : Nat} (hk : 5 ≤ k) {o d a b i : Int} (h0 : 0 ≤ o) (h1 : o < 256) (hd : 0 ≤ d ∧ d < 256) (ha : 0 ≤ a ∧ a < 256) (hb : 0 ≤ b ∧ b < 256) (hi : -2147483648 ≤ i ∧ i ≤ 2147483647) :
    isa_Encode.f k o d a b i = some (if chk o d a b i = 0 then ((encV o d a b i : Nat) : Int) else 0, chk o d a b i) := by
  unfold isa_Encode.f
  rw [isaCheck_at hk h0 h1 hi]
  simp only [Option.bind_some, Cut_at]
  by_cases c : chk o d a b i = 0
  · obtain ⟨on, rfl⟩ := Int.eq_ofNat_of_zero_le h0
    obtain ⟨dn, rfl⟩ := Int.eq_ofNat_of_zero_le hd.1
    obtain ⟨an, rfl⟩ := Int.eq_ofNat_of_zero_le ha.1
    obtain ⟨bn, rfl⟩ := Int.eq_ofNat_of_zero_le hb.1
    have hL := low_lt i
    have hB := reg_lt (chk_parts c).2.2.2.1
    have hor : low i ||| bn < 2 ^ 21 := Nat.or_lt_two_pow hL (by omega)
    rw [if_pos c, if_pos c, show ((bn : Int) % 4294967296) = (bn : Int) by omega, show ((on : Int) % 4294967296) = (on : Int) by omega, show ((dn : Int) % 4294967296) = (dn : Int) by omega, show ((an : Int) % 4294967296) = (an : Int) by omega,
      or_nat (by omega) (by omega)]
    have e1 := With_nat (low i ||| bn) 27 5 on (by omega) (by omega) (by omega)
    have e2 := With_nat (put (low i ||| bn) 27 5 on) 24 3 dn (put_lt _ _ _ _ (by omega)) (by omega) (by omega)
    have e3 := With_nat (put (put (low i ||| bn) 27 5 on) 24 3 dn) 21 3 an (put_lt _ _ _ _ (put_lt _ _ _ _ (by omega))) (by omega) (by omega)
    have e1 : word_With.f ((low i ||| bn : Nat) : Int) 27 5 (on : Int) = _ := e1
    have e2 : word_With.f _ 24 3 (dn : Int) = _ := e2
    have e3 : word_With.f _ 21 3 (an : Int) = _ := e3
    rw [e1, Option.bind_some, e2, Option.bind_some, e3, Option.bind_some, c]
    rfl
  · rw [if_neg c, if_neg c]
theorem Signed_v (x : Nat) : word_Signed.f (x : Int) 21 = some (if (x : Int) % 2097152 ≥ 1048576 then (x : Int) % 2097152 - 2097152 else (x : Int) % 2097152) := by
  unfold word_Signed.f
  rw [if_neg (by omega), if_neg (by omega), w64 _ (by omega), if_pos (by omega)]
  have e : shl .u32 (x : Int) (32 - 21) = ((x : Int) * 2048) % 4294967296 := by
    show IntKind.u32.wrap ((x : Int) * 2048) = _
    rw [IntKind.wrap_u32]
  rw [e]
  have e2 : ∀ y : Int, shr .i32 y (32 - 21) = y / 2048 := fun y => rfl
  rw [e2]
  congr 1
  unfold wrap32
  split <;> omega
theorem Signed_at (x : Nat) : ∃ r, word_Signed.f (x : Int) 21 = some r ∧ -1048576 ≤ r ∧ r ≤ 1048575 := ⟨_, Signed_v x, by split <;> omega, by split <;> omega⟩
end Go.Proofs.YtiphindialkmnaaDoor.X
end
section
namespace Go.Proofs.YtiphindialkmnaaDoor.X
open Go.RowKit Go.Proofs.YtiphindialkmnaaDoorW.PrintWords Go.Proofs.YtiphindialkmnaaDoorW.PrintLast Go.Proofs.YtiphindialkmnaaDoorW.PrintMore
set_option linter.unusedSimpArgs false
set_option linter.unusedVariables false
theorem dec_ok {x : Int} (h0 : 0 ≤ x) (h1 : x < 4294967296) (he : (dec x).2.2.2.2.2 = 0) : (0 ≤ (dec x).1 ∧ (dec x).1 < 256) ∧ (0 ≤ (dec x).2.1 ∧ (dec x).2.1 < 256) ∧ (0 ≤ (dec x).2.2.1 ∧ (dec x).2.2.1 < 256) ∧ (0 ≤ (dec x).2.2.2.1 ∧ (dec x).2.2.2.1 < 256) ∧ chk (dec x).1 (dec x).2.1 (dec x).2.2.1 (dec x).2.2.2.1 (dec x).2.2.2.2.1 = 0 := by
  obtain ⟨n, rfl⟩ := Int.eq_ofNat_of_zero_le h0
  have hn : n < 2 ^ 32 := by omega
  have hd := dec_at (show 3 ≤ 70 by decide) (n : Int)
  revert he
  generalize dec (n : Int) = D at hd ⊢
  have p5 : word_Bits.f (n : Int) 27 5 = some ((cut n 27 5 : Nat) : Int) := Bits_nat n 27 5 hn (by omega)
  have p3 : word_Bits.f (n : Int) 24 3 = some ((cut n 24 3 : Nat) : Int) := Bits_nat n 24 3 hn (by omega)
  have p1 : word_Bits.f (n : Int) 21 3 = some ((cut n 21 3 : Nat) : Int) := Bits_nat n 21 3 hn (by omega)
  have p0 : word_Bits.f (n : Int) 0 3 = some ((cut n 0 3 : Nat) : Int) := Bits_nat n 0 3 hn (by omega)
  have l5 := cut_lt n 27 5
  have l3 := cut_lt n 24 3
  have l1 := cut_lt n 21 3
  have l0 := cut_lt n 0 3
  obtain ⟨s, s1, s3, s4⟩ := Signed_at n
  unfold isa_Decode.f isa_UsesB.f at hd
  rw [p5, p3, p1, p0, s1] at hd
  generalize cut n 27 5 = o at l5 hd
  generalize cut n 24 3 = d at l3 hd
  generalize cut n 21 3 = a at l1 hd
  generalize cut n 0 3 = b at l0 hd
  simp only [Option.bind_some] at hd
  rw [uses_at (by omega) (by omega) (by omega)] at hd
  simp only [Option.bind_some] at hd
  rw [isaEncode_at (by omega) (by omega) (by omega) (by omega) (by omega) (by omega) (by omega), isaEncode_at (by omega) (by omega) (by omega) (by omega) (by omega) (by omega) (by omega)] at hd
  intro he
  split at hd
  · simp only [Option.bind_some] at hd
    split at hd
    · rename_i hc
      split at hd
      · obtain rfl := Option.some.inj hd
        exact ⟨⟨by simp only; omega, by simp only; omega⟩, ⟨by simp only; omega, by simp only; omega⟩, ⟨by simp only; omega, by simp only; omega⟩, ⟨by simp only; omega, by simp only; omega⟩, hc⟩
      · obtain rfl := Option.some.inj hd; cases he
    · obtain rfl := Option.some.inj hd; cases he
  · simp only [Option.bind_some] at hd
    split at hd
    · rename_i hc
      split at hd
      · obtain rfl := Option.some.inj hd
        exact ⟨⟨by simp only; omega, by simp only; omega⟩, ⟨by simp only; omega, by simp only; omega⟩, ⟨by simp only; omega, by simp only; omega⟩, ⟨by simp only; omega, by simp only; omega⟩, hc⟩
      · obtain rfl := Option.some.inj hd; cases he
    · obtain rfl := Option.some.inj hd; cases he
theorem uses2 : uses 2 = (true, false, false, true) := by decide +kernel
theorem uses17' : uses 17 = (false, false, false, true) := by decide +kernel
theorem chk_imm {o d a b i v : Int} (hc : chk o d a b i = 0) (ho : o = 17 ∨ o = 2) (hv : 0 ≤ v ∧ v ≤ 1048575) : chk o d a b v = 0 := by
  obtain ⟨h1, h2, h3, h4, _⟩ := chk_parts hc
  have hu : (uses o).2.2.2 = true := by rcases ho with rfl | rfl <;> rfl
  unfold chk
  rw [if_neg, if_neg (by omega), if_neg (by omega), if_neg (by omega)]
  rintro (h | h | h | h | h)
  · omega
  · rw [h2] at h; cases h
  · rw [h3] at h; cases h
  · rw [h4] at h; cases h
  · rw [hu] at h; cases h.1
/-- the number alone stands in a word's lowest bits -/
theorem enc_low (o d a l : Nat) (hl : l < 2 ^ 21) : enc o d a l = enc o d a 0 + l := by
  have h0 : (0 : Nat) < 2 ^ 32 := by decide
  have hl2 : l < 2 ^ 32 := by omega
  have e : enc o d a l = (enc o d a 0 >>> 21) <<< 21 ||| l := by
    apply Nat.eq_of_testBit_eq
    intro m
    rw [Nat.testBit_or, Nat.testBit_shiftLeft, Nat.testBit_shiftRight, enc_bit _ _ _ _ _ hl2]
    by_cases c : m < 21
    · rw [if_neg (by omega), if_neg (by omega), if_neg (by omega), decide_eq_true (show m < 32 by omega), decide_eq_false (show ¬ m ≥ 21 by omega), Bool.true_and, Bool.false_and, Bool.false_or]
    · rw [decide_eq_true (show m ≥ 21 by omega), Bool.true_and, show 21 + (m - 21) = m by omega, enc_bit _ _ _ _ _ h0]
      have hz : l.testBit m = false := Nat.testBit_lt_two_pow (Nat.lt_of_lt_of_le hl (Nat.pow_le_pow_right (by decide) (by omega)))
      rw [hz, Bool.or_false]
      congr 1
      rw [Nat.zero_testBit]
  have e2 : enc o d a 0 = (enc o d a 0 >>> 21) <<< 21 := by
    apply Nat.eq_of_testBit_eq
    intro m
    rw [Nat.testBit_shiftLeft, Nat.testBit_shiftRight]
    by_cases c : m < 21
    · rw [enc_bit _ _ _ _ _ h0, if_neg (by omega), if_neg (by omega), if_neg (by omega), Nat.zero_testBit, decide_eq_false (show ¬ m ≥ 21 by omega), Bool.and_false, Bool.false_and]
    · rw [decide_eq_true (show m ≥ 21 by omega), Bool.true_and, show 21 + (m - 21) = m by omega]
  rw [e, ← Nat.shiftLeft_add_eq_or_of_lt hl, ← e2]
end Go.Proofs.YtiphindialkmnaaDoor.X
end
