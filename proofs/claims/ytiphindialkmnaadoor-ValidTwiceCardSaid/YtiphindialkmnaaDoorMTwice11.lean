/- Texts that the proof rests on, part 11. -/
import Derived.Lib.SmallJoins
import Derived.Maps.OwnOps
import Derived.Maps.Views
import Derived.Test.YtiphindialkmnaaDoorMTwice10
section
namespace Go.Proofs.YtiphindialkmnaaDoor.X
open Go.RowKit Go.Lib Go.Maps Go.Joins Go.Proofs.YtiphindialkmnaaDoorW.PrintWords Go.Proofs.YtiphindialkmnaaDoorW.PrintLast Go.Proofs.YtiphindialkmnaaDoorW.PrintMore
set_option linter.unusedVariables false
set_option linter.unusedSimpArgs false
set_option maxRecDepth 100000

def idxF (p : S43 → Option Bool) (l : List S43) : Nat → Nat → Option Int
  | 0, _ => some (-1)
  | d + 1, i => if i < l.length then (p (rd_T43 l i)).bind fun b => if b = true then some (i : Int) else idxF p l d (i + 1) else some (-1)
set_option maxRecDepth 100000 in
theorem relocs79.calls (k : Nat) (a0 : ByteArray) (A1 : Option Addr) (c1 : Nat) (l1 : List ByteArray) (A2 : Option Addr) (c2 : Nat) (l2 : List ByteArray) (A3 : Option Addr) (c3 : Nat) (l3 : List Int) (A4 : Option Addr) (c4 : Nat) (l4 : List Int) (A5 : Option Addr) (c5 : Nat) (l5 : List S43) (gb : Nat) (f0 f1 f2 : Int) (r : Bool) (w : World)
    (hb : w.heap[gb]? = some (.cells #[.string a0, .slice A1 l1.length c1, .slice A2 l2.length c2, .slice A3 l3.length c3, .slice A4 l4.length c4, .slice A5 l5.length c5] 26 (0, 0)))
    (hr1 : Kd.C Kd.string w A1 l1.length l1) (hc1 : l1.length ≤ c1) (hr2 : Kd.C Kd.string w A2 l2.length l2) (hc2 : l2.length ≤ c2) (hr3 : Kd.C (Kd.int .u32) w A3 l3.length l3) (hc3 : l3.length ≤ c3) (hr4 : Kd.C (Kd.int .u32) w A4 l4.length l4) (hc4 : l4.length ≤ c4) (hr5 : Kd.C k43 w A5 l5.length l5) (hc5 : l5.length ≤ c5)
    (h : valid_fits.f k a0 l1 l2 l3 l4 l5 f0 f1 f2 = some r) :
    Calls Tryd.prog 79 #[.agg #[.int .u8 f0, .int .u16 f1, .int .u16 f2], .pointer (some ⟨gb, 0, none⟩)] w fun e w' => e = .returned (.bool (!r)) ∧ Below w.heap.size w w' := by
  have hz0 : w.cell? ⟨gb, 0, none⟩ = some (.string a0) := (blk_cell hb 0).trans rfl
  have hz1 : w.cell? ⟨gb, 1, none⟩ = some (.slice A1 l1.length c1) := (blk_cell hb 1).trans rfl
  have hz2 : w.cell? ⟨gb, 2, none⟩ = some (.slice A2 l2.length c2) := (blk_cell hb 2).trans rfl
  have hz3 : w.cell? ⟨gb, 3, none⟩ = some (.slice A3 l3.length c3) := (blk_cell hb 3).trans rfl
  have hz4 : w.cell? ⟨gb, 4, none⟩ = some (.slice A4 l4.length c4) := (blk_cell hb 4).trans rfl
  have hz5 : w.cell? ⟨gb, 5, none⟩ = some (.slice A5 l5.length c5) := (blk_cell hb 5).trans rfl
  have hlt : gb < w.heap.size := blk_lt hb
  have H := Aside0.mk h
  have HB := Aside0.mk (Below.refl w.heap.size w)
  clear h hb
  go_enter Tryd.func79, Tryd.ntmps79
  go_wp2_with fail
  have HA := Aside0.mk (below_alloc HB.out (.cells #[.int .u8 f0, .int .u16 f1, .int .u16 f2] 43))
  refine (valid_fits.calls k a0 _ _ l1 _ _ l2 _ _ l3 _ _ l4 _ _ l5 f0 f1 f2 r _ (Kd.C_below hr1 HA.out) hc1 (Kd.C_below hr2 HA.out) hc2 (Kd.C_below hr3 HA.out) hc3 (Kd.C_below hr4 HA.out) hc4 (Kd.C_below hr5 HA.out) hc5 H.out).mono ?_
  rintro e w1 ⟨rfl, hb1⟩
  have HB1 := Aside0.mk (below_step HA.out hb1)
  clear hb1
  go_wp2
  go_ret
  exact ⟨rfl, HB1.out⟩
set_option maxRecDepth 100000 in
theorem IndexFunc79.calls (k : Nat) (a0 : ByteArray) (A1 : Option Addr) (c1 : Nat) (l1 : List ByteArray) (A2 : Option Addr) (c2 : Nat) (l2 : List ByteArray) (A3 : Option Addr) (c3 : Nat) (l3 : List Int) (A4 : Option Addr) (c4 : Nat) (l4 : List Int) (A5 : Option Addr) (c5 : Nat) (l5 : List S43) (gb : Nat) (r : Int) (w : World)
    (hb : w.heap[gb]? = some (.cells #[.string a0, .slice A1 l1.length c1, .slice A2 l2.length c2, .slice A3 l3.length c3, .slice A4 l4.length c4, .slice A5 l5.length c5] 26 (0, 0)))
    (hr1 : Kd.C Kd.string w A1 l1.length l1) (hc1 : l1.length ≤ c1) (hr2 : Kd.C Kd.string w A2 l2.length l2) (hc2 : l2.length ≤ c2) (hr3 : Kd.C (Kd.int .u32) w A3 l3.length l3) (hc3 : l3.length ≤ c3) (hr4 : Kd.C (Kd.int .u32) w A4 l4.length l4) (hc4 : l4.length ≤ c4) (hr5 : Kd.C k43 w A5 l5.length l5) (hc5 : l5.length ≤ c5)
    (h : idxF (fun r => (valid_fits.f k a0 l1 l2 l3 l4 l5 r.f0 r.f1 r.f2).map (!·)) l5 l5.length 0 = some r) :
    Calls Tryd.prog 78 #[.slice A5 l5.length c5, .func (.func 79) #[] #[.pointer (some ⟨gb, 0, none⟩)]] w fun e w' => e = .returned (.int .i64 r) ∧ Below w.heap.size w w' := by
  have H := Aside0.mk h
  have HK := Aside0.mk hb
  have HM := Aside0.mk (show l5.length ≤ 9223372036854775807 from hr5.2.1)
  clear h hb
  go_enter Tryd.func78, Tryd.ntmps78
  go_wp2
  go_loopw [8] (fun n wr => ∃ (i d : Nat), n = .int .i64 i ∧ i ≤ l5.length ∧ Aside0 (idxF (fun r => (valid_fits.f k a0 l1 l2 l3 l4 l5 r.f0 r.f1 r.f2).map (!·)) l5 d i = some r) ∧ l5.length ≤ i + d ∧ Aside0 (Below w.heap.size w wr)) (fun n _ => l5.length - (RowKit.intOf n).toNat)
  case atStart => exact ⟨0, l5.length, rfl, Nat.zero_le _, H, by omega, ⟨Below.refl _ _⟩⟩
  case round =>
    obtain ⟨i, d, rfl, hi, hI, hd, HB⟩ := hrel
    have hlm := HM.out
    by_cases hlt : i < l5.length
    · have HC := Aside0.mk (Kd.C_below hr5 HB.out)
      obtain ⟨ad, e1, hx0, hx1, hx2⟩ := at_T43 HC.out (i : Int) (by omega) (by omega)
      simp only [Int.toNat_natCast] at hx0 hx1 hx2
      have hd1 : decide ((i : Int) < (l5.length : Int)) = true := decide_eq_true (by omega)
      cases d with
      | zero => omega
      | succ d =>
      have hI := hI.out
      simp only [idxF, if_pos hlt] at hI
      obtain ⟨b, hb0, hb1⟩ := Option.bind_eq_some_iff.1 hI
      obtain ⟨b', hb2, rfl⟩ := Option.map_eq_some_iff.1 hb0
      have HF := Aside0.mk hb2
      have HI := Aside0.mk hb1
      clear hI hb0 hb1 hb2
      cases e1
      go_wp2_with fail
      refine (relocs79.calls k a0 _ c1 l1 _ c2 l2 _ c3 l3 _ c4 l4 _ c5 l5 gb _ _ _ b' _ (blk_below HK.out HB.out) (Kd.C_below hr1 HB.out) hc1 (Kd.C_below hr2 HB.out) hc2 (Kd.C_below hr3 HB.out) hc3 (Kd.C_below hr4 HB.out) hc4 (Kd.C_below hr5 HB.out) hc5 HF.out).mono ?_
      rintro e w1 ⟨rfl, hb1⟩
      have HB1 := Aside0.mk (below_step HB.out hb1)
      clear hb1 hx0 hx1 hx2
      cases b' with
      | false =>
        have HE := HI.out
        simp only [Bool.not_false, if_true] at HE
        obtain rfl := Option.some.inj HE
        clear HE HI
        go_wp2
        go_ret
        exact ⟨rfl, HB1.out⟩
      | true =>
        have HE := HI.out
        simp only [Bool.not_true, Bool.false_eq_true, if_false] at HE
        have HE := Aside0.mk HE
        clear HI
        go_wp2
        go_roundw
        case rel => exact ⟨i + 1, d, by go_num, by omega, HE, by omega, HB1⟩
        case measure => simp [RowKit.intOf]; omega
    · have hd1 : decide ((i : Int) < (l5.length : Int)) = false := decide_eq_false (by omega)
      have hI := hI.out
      have hE : some (-1) = some r := by
        rw [← hI]
        cases d with
        | zero => rfl
        | succ d => simp only [idxF, if_neg hlt]
      obtain rfl := Option.some.inj hE
      clear hE hI
      go_wp2
      go_ret
      exact ⟨rfl, HB.out⟩
set_option maxRecDepth 100000 in
theorem relocs81.calls (k : Nat) (a0 : ByteArray) (A1 : Option Addr) (c1 : Nat) (l1 : List ByteArray) (A2 : Option Addr) (c2 : Nat) (l2 : List ByteArray) (A3 : Option Addr) (c3 : Nat) (l3 : List Int) (A4 : Option Addr) (c4 : Nat) (l4 : List Int) (A5 : Option Addr) (c5 : Nat) (l5 : List S43) (gb : Nat) (f0 f1 f2 : Int) (r : Bool) (w : World)
    (hb : w.heap[gb]? = some (.cells #[.string a0, .slice A1 l1.length c1, .slice A2 l2.length c2, .slice A3 l3.length c3, .slice A4 l4.length c4, .slice A5 l5.length c5] 26 (0, 0)))
    (hr1 : Kd.C Kd.string w A1 l1.length l1) (hc1 : l1.length ≤ c1) (hr2 : Kd.C Kd.string w A2 l2.length l2) (hc2 : l2.length ≤ c2) (hr3 : Kd.C (Kd.int .u32) w A3 l3.length l3) (hc3 : l3.length ≤ c3) (hr4 : Kd.C (Kd.int .u32) w A4 l4.length l4) (hc4 : l4.length ≤ c4) (hr5 : Kd.C k43 w A5 l5.length l5) (hc5 : l5.length ≤ c5)
    (h : valid_there.f k a0 l1 l2 l3 l4 l5 f0 f1 f2 = some r) :
    Calls Tryd.prog 81 #[.agg #[.int .u8 f0, .int .u16 f1, .int .u16 f2], .pointer (some ⟨gb, 0, none⟩)] w fun e w' => e = .returned (.bool (!r)) ∧ Below w.heap.size w w' := by
  have hz0 : w.cell? ⟨gb, 0, none⟩ = some (.string a0) := (blk_cell hb 0).trans rfl
  have hz1 : w.cell? ⟨gb, 1, none⟩ = some (.slice A1 l1.length c1) := (blk_cell hb 1).trans rfl
  have hz2 : w.cell? ⟨gb, 2, none⟩ = some (.slice A2 l2.length c2) := (blk_cell hb 2).trans rfl
  have hz3 : w.cell? ⟨gb, 3, none⟩ = some (.slice A3 l3.length c3) := (blk_cell hb 3).trans rfl
  have hz4 : w.cell? ⟨gb, 4, none⟩ = some (.slice A4 l4.length c4) := (blk_cell hb 4).trans rfl
  have hz5 : w.cell? ⟨gb, 5, none⟩ = some (.slice A5 l5.length c5) := (blk_cell hb 5).trans rfl
  have hlt : gb < w.heap.size := blk_lt hb
  have H := Aside0.mk h
  have HB := Aside0.mk (Below.refl w.heap.size w)
  clear h hb
  go_enter Tryd.func81, Tryd.ntmps81
  go_wp2_with fail
  have HA := Aside0.mk (below_alloc HB.out (.cells #[.int .u8 f0, .int .u16 f1, .int .u16 f2] 43))
  refine (valid_there.calls k a0 _ _ l1 _ _ l2 _ _ l3 _ _ l4 _ _ l5 f0 f1 f2 r _ (Kd.C_below hr1 HA.out) hc1 (Kd.C_below hr2 HA.out) hc2 (Kd.C_below hr3 HA.out) hc3 (Kd.C_below hr4 HA.out) hc4 (Kd.C_below hr5 HA.out) hc5 H.out).mono ?_
  rintro e w1 ⟨rfl, hb1⟩
  have HB1 := Aside0.mk (below_step HA.out hb1)
  clear hb1
  go_wp2
  go_ret
  exact ⟨rfl, HB1.out⟩
set_option maxRecDepth 100000 in
theorem IndexFunc81.calls (k : Nat) (a0 : ByteArray) (A1 : Option Addr) (c1 : Nat) (l1 : List ByteArray) (A2 : Option Addr) (c2 : Nat) (l2 : List ByteArray) (A3 : Option Addr) (c3 : Nat) (l3 : List Int) (A4 : Option Addr) (c4 : Nat) (l4 : List Int) (A5 : Option Addr) (c5 : Nat) (l5 : List S43) (gb : Nat) (r : Int) (w : World)
    (hb : w.heap[gb]? = some (.cells #[.string a0, .slice A1 l1.length c1, .slice A2 l2.length c2, .slice A3 l3.length c3, .slice A4 l4.length c4, .slice A5 l5.length c5] 26 (0, 0)))
    (hr1 : Kd.C Kd.string w A1 l1.length l1) (hc1 : l1.length ≤ c1) (hr2 : Kd.C Kd.string w A2 l2.length l2) (hc2 : l2.length ≤ c2) (hr3 : Kd.C (Kd.int .u32) w A3 l3.length l3) (hc3 : l3.length ≤ c3) (hr4 : Kd.C (Kd.int .u32) w A4 l4.length l4) (hc4 : l4.length ≤ c4) (hr5 : Kd.C k43 w A5 l5.length l5) (hc5 : l5.length ≤ c5)
    (h : idxF (fun r => (valid_there.f k a0 l1 l2 l3 l4 l5 r.f0 r.f1 r.f2).map (!·)) l5 l5.length 0 = some r) :
    Calls Tryd.prog 78 #[.slice A5 l5.length c5, .func (.func 81) #[] #[.pointer (some ⟨gb, 0, none⟩)]] w fun e w' => e = .returned (.int .i64 r) ∧ Below w.heap.size w w' := by
  have H := Aside0.mk h
  have HK := Aside0.mk hb
  have HM := Aside0.mk (show l5.length ≤ 9223372036854775807 from hr5.2.1)
  clear h hb
  go_enter Tryd.func78, Tryd.ntmps78
  go_wp2
  go_loopw [8] (fun n wr => ∃ (i d : Nat), n = .int .i64 i ∧ i ≤ l5.length ∧ Aside0 (idxF (fun r => (valid_there.f k a0 l1 l2 l3 l4 l5 r.f0 r.f1 r.f2).map (!·)) l5 d i = some r) ∧ l5.length ≤ i + d ∧ Aside0 (Below w.heap.size w wr)) (fun n _ => l5.length - (RowKit.intOf n).toNat)
  case atStart => exact ⟨0, l5.length, rfl, Nat.zero_le _, H, by omega, ⟨Below.refl _ _⟩⟩
  case round =>
    obtain ⟨i, d, rfl, hi, hI, hd, HB⟩ := hrel
    have hlm := HM.out
    by_cases hlt : i < l5.length
    · have HC := Aside0.mk (Kd.C_below hr5 HB.out)
      obtain ⟨ad, e1, hx0, hx1, hx2⟩ := at_T43 HC.out (i : Int) (by omega) (by omega)
      simp only [Int.toNat_natCast] at hx0 hx1 hx2
      have hd1 : decide ((i : Int) < (l5.length : Int)) = true := decide_eq_true (by omega)
      cases d with
      | zero => omega
      | succ d =>
      have hI := hI.out
      simp only [idxF, if_pos hlt] at hI
      obtain ⟨b, hb0, hb1⟩ := Option.bind_eq_some_iff.1 hI
      obtain ⟨b', hb2, rfl⟩ := Option.map_eq_some_iff.1 hb0
      have HF := Aside0.mk hb2
      have HI := Aside0.mk hb1
      clear hI hb0 hb1 hb2
      cases e1
      go_wp2_with fail
      refine (relocs81.calls k a0 _ c1 l1 _ c2 l2 _ c3 l3 _ c4 l4 _ c5 l5 gb _ _ _ b' _ (blk_below HK.out HB.out) (Kd.C_below hr1 HB.out) hc1 (Kd.C_below hr2 HB.out) hc2 (Kd.C_below hr3 HB.out) hc3 (Kd.C_below hr4 HB.out) hc4 (Kd.C_below hr5 HB.out) hc5 HF.out).mono ?_
      rintro e w1 ⟨rfl, hb1⟩
      have HB1 := Aside0.mk (below_step HB.out hb1)
      clear hb1 hx0 hx1 hx2
      cases b' with
      | false =>
        have HE := HI.out
        simp only [Bool.not_false, if_true] at HE
        obtain rfl := Option.some.inj HE
        clear HE HI
        go_wp2
        go_ret
        exact ⟨rfl, HB1.out⟩
      | true =>
        have HE := HI.out
        simp only [Bool.not_true, Bool.false_eq_true, if_false] at HE
        have HE := Aside0.mk HE
        clear HI
        go_wp2
        go_roundw
        case rel => exact ⟨i + 1, d, by go_num, by omega, HE, by omega, HB1⟩
        case measure => simp [RowKit.intOf]; omega
    · have hd1 : decide ((i : Int) < (l5.length : Int)) = false := decide_eq_false (by omega)
      have hI := hI.out
      have hE : some (-1) = some r := by
        rw [← hI]
        cases d with
        | zero => rfl
        | succ d => simp only [idxF, if_neg hlt]
      obtain rfl := Option.some.inj hE
      clear hE hI
      go_wp2
      go_ret
      exact ⟨rfl, HB.out⟩
set_option maxRecDepth 100000 in
theorem laidOut : laidOutB Tryd.prog = true := by kernel_rfl
set_option maxRecDepth 100000 in
theorem row123 : (123 : TypeId) < Tryd.prog.types.size := of_decide_eq_true (by kernel_rfl)
theorem deep123 : Tryd.prog.keyTypeAt (Tryd.prog.types.size + 1) 123 = true := by kernel_rfl
theorem wide123 : (match Tryd.prog.underlying 123 with | some (.array _ _) | some (.struct _) => true | _ => false) = true := by kernel_rfl
set_option maxRecDepth 100000 in
theorem law123 : Keyed Tryd.prog 123 := Keyed.of_law (deep_law_laid laidOut (m := 3) (by omega) row123 (by kernel_rfl) wide123)
set_option maxRecDepth 100000 in
theorem cells123 : Tryd.prog.cellsOf 123 = 2 := by kernel_rfl
theorem formed123 (c : Bool) (n : Int) : (Value.agg #[.bool c, .int .u16 n]).formed Tryd.prog 123 = true := by
  simp [Value.formed, Tryd.underlying123, cells123]
theorem wf_u16 {n : Int} (h0 : 0 ≤ n) (h1 : n ≤ 65535) : (Lit.int .u16 n).wf = true := by
  simp [Lit.wf, IntKind.min, IntKind.max, IntKind.signed, IntKind.bits]; omega
set_option maxRecDepth 100000 in
theorem trod123 (c : Bool) (n : Int) (h0 : 0 ≤ n) (h1 : n ≤ 65535) (w : World) : DataW.Trod (fun _ => ()) Tryd.prog w 0 (fun _ => true) false 123 (.agg #[.bool c, .int .u16 n]) (.agg [.lit (.bool c), .lit (.int .u16 n)]) [] :=
  shut_agg2 (y0 := (.lit (.bool c), [])) (y1 := (.lit (.int .u16 n), [])) Tryd.underlying123 (by kernel_rfl) cells123 ⟨1, by simp [DataW.trod, Tryd.underlying4]⟩ ⟨1, by simp [DataW.trod, Tryd.underlying41, wf_u16 h0 h1]⟩
def keyL (c : Bool) (n : Int) : Lit := (DataW.agg [.lit (.bool c), .lit (.int .u16 n)] : DataW Unit).asKey
theorem keyOf123 (c : Bool) (n : Int) (h0 : 0 ≤ n) (h1 : n ≤ 65535) (w : World) : keyOf Tryd.prog 123 (.agg #[.bool c, .int .u16 n]) = some (keyL c n) :=
  (keyOf_asKey deep123 wide123 (formed123 c n) (trod123 c n h0 h1 w)).1

/-! ### The map of spots -/
theorem keyL_inj {c c' : Bool} {n n' : Int} (h0 : 0 ≤ n) (h1 : n ≤ 65535) (h0' : 0 ≤ n') (h1' : n' ≤ 65535) (h : keyL c n = keyL c' n') : c = c' ∧ n = n' := by
  have e := law123.inj (keyOf123 c n h0 h1 default) (h ▸ keyOf123 c' n' h0' h1' default)
  simpa using e
structure MapD (D : DataW Unit) (s : List (Bool × Int)) : Prop where
  isMap : Maps.IsMap D
  at_ : ∀ (c : Bool) (n : Int), 0 ≤ n → n ≤ 65535 → D.atKey (keyL c n) (.lit (.bool false)) = .lit (.bool (decide ((c, n) ∈ s)))
  wf : ∀ p ∈ s, 0 ≤ p.2 ∧ p.2 ≤ 65535
theorem MapD.nil : MapD (.map []) [] := ⟨⟨_, rfl⟩, fun _ _ _ _ => by simp [DataW.atKey], fun _ h => by cases h⟩
theorem MapD.put {D : DataW Unit} {s : List (Bool × Int)} (h : MapD D s) (c : Bool) (n : Int) (h0 : 0 ≤ n) (h1 : n ≤ 65535) : MapD (D.put (keyL c n) (.lit (.bool true))) ((c, n) :: s) := by
  refine ⟨h.isMap.put _ _, fun c' n' h0' h1' => ?_, fun p hp => ?_⟩
  · by_cases e : keyL c' n' = keyL c n
    · obtain ⟨rfl, rfl⟩ := keyL_inj h0' h1' h0 h1 e
      rw [Maps.atKey_put_same h.isMap (law123.key (keyOf123 c' n' h0 h1 default))]
      simp
    · rw [Maps.atKey_put_other e, h.at_ c' n' h0' h1']
      have hne : (c', n') ≠ (c, n) := fun e2 => e (by injection e2 with e3 e4; rw [e3, e4])
      simp [hne]
  · rcases List.mem_cons.1 hp with rfl | hp
    · exact ⟨h0, h1⟩
    · exact h.wf p hp

theorem zeroBool (w : World) : (zeroValue 4).run Tryd.prog w = .ok (.bool false) w := by kernel_rfl
/-- What 'named[s]' tells. -/
theorem lookNamed {W : World} {b n : Nat} {D : DataW Unit} {s : List (Bool × Int)} (h : W.ownsMap Tryd.prog 123 (plainElem Tryd.prog 4) b n D) (hD : MapD D s) (c : Bool) (m : Int) (h0 : 0 ≤ m) (h1 : m ≤ 65535) :
    (Instr.lookup 121 (.map (some b)) (.agg #[.bool c, .int .u16 m]) false).run Tryd.prog W = .ok (.bool (decide ((c, m) ∈ s))) W := by
  obtain ⟨v, ps, hrun, hv⟩ := h.lookup law123 Tryd.underlying121 (zeroBool W) (plainElem_bool Tryd.underlying4 false) (keyOf123 c m h0 h1 W)
  rw [hD.at_ c m h0 h1] at hv
  have hv2 : v = .bool (decide ((c, m) ∈ s)) := by
    unfold plainElem at hv
    rw [Tryd.underlying4] at hv
    cases v <;> simp at hv
    rw [hv.1]
  rw [hrun, hv2]

/-! ### What relocs tells -/
def relA (l3 l4 : List Int) (l : List S43) : Nat → Nat → List (Bool × Int) → Option (Int ⊕ List (Bool × Int))
  | 0, _, s => some (.inr s)
  | d + 1, i, s => if i < l.length then (valid_of.f (rd_T43 l i).f0 (rd_T43 l i).f1 (rd_T43 l i).f2).bind fun sp =>
      if 0 ≤ sp.2 ∧ sp.2 ≤ 65535 ∧ 0 ≤ (rd_T43 l i).f1 ∧ (rd_T43 l i).f1 ≤ 65535 then
        (if sp ∈ s then some (.inl (i : Int)) else if (rd_T43 l i).f1 ≥ (if sp.1 = true then (l3.length : Int) else (l4.length : Int)) then some (.inl (i : Int)) else relA l3 l4 l d (i + 1) (sp :: s))
      else none
    else some (.inr s)
def relD (k : Nat) (l3 : List Int) (s : List (Bool × Int)) : Nat → Nat → Option (Int × Int)
  | 0, _ => some (0, 0)
  | d + 1, i => if i < l3.length then (isa_Decode.f k (rd l3 i)).bind fun x => if x.1 = 17 ∧ ¬ (true, (i : Int) % 65536) ∈ s then some (9, (i : Int)) else relD k l3 s d (i + 1) else some (0, 0)
def valid_relocs.f (k : Nat) (a0 : ByteArray) (l1 l2 : List ByteArray) (l3 l4 : List Int) (l5 : List S43) : Option (Int × Int) :=
  (relA l3 l4 l5 l5.length 0 []).bind fun s => match s with
    | .inl i => some (6, i)
    | .inr s => (idxF (fun r => (valid_fits.f k a0 l1 l2 l3 l4 l5 r.f0 r.f1 r.f2).map (!·)) l5 l5.length 0).bind fun i => if i ≥ 0 then some (7, i) else
        (idxF (fun r => (valid_there.f k a0 l1 l2 l3 l4 l5 r.f0 r.f1 r.f2).map (!·)) l5 l5.length 0).bind fun j => if j ≥ 0 then some (8, j) else relD k l3 s l3.length 0
theorem LeO.map {α β : Type} {a b : Option α} (h : LeO a b) (f : α → β) : LeO (a.map f) (b.map f) := by
  intro r hr
  obtain ⟨x, hx, rfl⟩ := Option.map_eq_some_iff.1 hr
  rw [h x hx]; rfl
theorem idxF_mono (p q : S43 → Option Bool) (h : ∀ r, LeO (p r) (q r)) (l : List S43) : ∀ d i, LeO (idxF p l d i) (idxF q l d i)
  | 0, _ => LeO.refl _
  | d + 1, i => by
    unfold idxF
    refine LeO.ite (LeO.bind (h _) fun b => LeO.ite (LeO.refl _) (idxF_mono p q h l d (i + 1))) (LeO.refl _)
theorem relD_mono (k : Nat) (l3 : List Int) (s : List (Bool × Int)) : ∀ d i, LeO (relD k l3 s d i) (relD (k + 1) l3 s d i)
  | 0, _ => LeO.refl _
  | d + 1, i => by
    unfold relD
    refine LeO.ite (LeO.bind (isa_Decode.mono _ _) fun b => LeO.ite (LeO.refl _) (relD_mono k l3 s d (i + 1))) (LeO.refl _)
theorem valid_relocs.mono : ∀ a0 a1 a2 a3 a4 a5 k, LeO (valid_relocs.f k a0 a1 a2 a3 a4 a5) (valid_relocs.f (k + 1) a0 a1 a2 a3 a4 a5) := by
  intro a0 a1 a2 a3 a4 a5 k
  unfold valid_relocs.f
  refine LeO.bind (LeO.refl _) fun s => ?_
  cases s with
  | inl i => exact LeO.refl _
  | inr s =>
    refine LeO.bind (idxF_mono _ _ (fun r => LeO.map (valid_fits.mono _ _ _ _ _ _ _ _ _ _) _) _ _ _) fun i => LeO.ite (LeO.refl _) ?_
    exact LeO.bind (idxF_mono _ _ (fun r => LeO.map (valid_there.mono _ _ _ _ _ _ _ _ _ _) _) _ _ _) fun i => LeO.ite (LeO.refl _) (relD_mono _ _ _ _ _)
end Go.Proofs.YtiphindialkmnaaDoor.X
end
section
namespace Go.Proofs.YtiphindialkmnaaDoor.X
open Go.RowKit Go.Lib Go.Maps Go.Joins Go.Proofs.YtiphindialkmnaaDoorW.PrintWords Go.Proofs.YtiphindialkmnaaDoorW.PrintLast Go.Proofs.YtiphindialkmnaaDoorW.PrintMore
set_option linter.unusedVariables false
set_option linter.unusedSimpArgs false
set_option maxRecDepth 100000


set_option maxRecDepth 100000 in
set_option maxHeartbeats 2000000 in
theorem valid_relocs.calls (k : Nat) (a0 : ByteArray) (A1 : Option Addr) (c1 : Nat) (l1 : List ByteArray) (A2 : Option Addr) (c2 : Nat) (l2 : List ByteArray) (A3 : Option Addr) (c3 : Nat) (l3 : List Int) (A4 : Option Addr) (c4 : Nat) (l4 : List Int) (A5 : Option Addr) (c5 : Nat) (l5 : List S43) (r1 r2 : Int) (w : World)
    (hr1 : Kd.C Kd.string w A1 l1.length l1) (hc1 : l1.length ≤ c1) (hr2 : Kd.C Kd.string w A2 l2.length l2) (hc2 : l2.length ≤ c2) (hr3 : Kd.C (Kd.int .u32) w A3 l3.length l3) (hc3 : l3.length ≤ c3) (hr4 : Kd.C (Kd.int .u32) w A4 l4.length l4) (hc4 : l4.length ≤ c4) (hr5 : Kd.C k43 w A5 l5.length l5) (hc5 : l5.length ≤ c5)
    (h : valid_relocs.f k a0 l1 l2 l3 l4 l5 = some (r1, r2)) :
    Calls Tryd.prog 40 #[.agg #[.string a0, .slice A1 l1.length c1, .slice A2 l2.length c2, .slice A3 l3.length c3, .slice A4 l4.length c4, .slice A5 l5.length c5]] w fun e w' => e = .returned (.tuple #[.int .u8 r1, .int .i64 r2]) ∧ Below w.heap.size w w' := by
  unfold valid_relocs.f at h
  obtain ⟨res, hA, h⟩ := Option.bind_eq_some_iff.1 h
  have HA := Aside0.mk hA
  have H := Aside0.mk h
  have HM := Aside0.mk (show l5.length ≤ 9223372036854775807 from hr5.2.1)
  have hmm := @run_makeMap Tryd.prog
  clear hA h
  go_enter Tryd.func40, Tryd.ntmps40
  go_wp2
  go_loopw [5, 6, 7, 8, 19] (fun _ _ _ _ n wr => ∃ (i d : Nat) (s : List (Bool × Int)) (D : DataW Unit), n = .int .i64 i ∧ i ≤ l5.length ∧ Aside0 (relA l3 l4 l5 d i s = some res) ∧ l5.length ≤ i + d ∧ Aside0 (MapD D s) ∧ Aside0 (wr.heap[w.heap.size]? = some (.cells #[.string a0, .slice A1 l1.length c1, .slice A2 l2.length c2, .slice A3 l3.length c3, .slice A4 l4.length c4, .slice A5 l5.length c5] 26 (0, 0))) ∧ Aside0 (wr.ownsMap Tryd.prog 123 (plainElem (H := Unit) Tryd.prog 4) (w.heap.size + 1) i D) ∧ Aside0 (Below w.heap.size w wr)) (fun _ _ _ _ n _ => l5.length - (RowKit.intOf n).toNat)
  case atStart =>
    refine ⟨0, l5.length, [], .map [], rfl, Nat.zero_le _, HA, by omega, ⟨MapD.nil⟩, ⟨?_⟩, ⟨?_⟩, ⟨below_alloc (below_alloc (Below.refl _ _) _) _⟩⟩
    · exact blk_alloc (by simpa using heap_alloc_new w _) _
    · have := World.ownsMap_made (H := Unit) (w.alloc (.cells #[.string a0, .slice A1 l1.length c1, .slice A2 l2.length c2, .slice A3 l3.length c3, .slice A4 l4.length c4, .slice A5 l5.length c5] 26)) Tryd.prog 123 (plainElem Tryd.prog 4)
      simpa using this
  case round =>
    obtain ⟨i, d, s, D, rfl, hi, hI, hd, HD, HK, HO, HB⟩ := hrel
    have hlm := HM.out
    by_cases hlt : i < l5.length
    · have HC := Aside0.mk (Kd.C_below hr5 HB.out)
      obtain ⟨ad, e1, hx0, hx1, hx2⟩ := at_T43 HC.out (i : Int) (by omega) (by omega)
      simp only [Int.toNat_natCast] at hx0 hx1 hx2
      have hd1 : decide ((i : Int) < (l5.length : Int)) = true := decide_eq_true (by omega)
      cases d with
      | zero => omega
      | succ d =>
      have hI := hI.out
      simp only [relA, if_pos hlt] at hI
      obtain ⟨⟨f0, f1, f2⟩, hrd⟩ : ∃ x, rd_T43 l5 (i : Int) = x := ⟨_, rfl⟩
      rw [hrd] at hx0 hx1 hx2 hI
      simp only at hx0 hx1 hx2 hI
      clear hrd
      obtain ⟨⟨b, at_⟩, hb0, hb1⟩ := Option.bind_eq_some_iff.1 hI
      obtain ⟨hwf, hb1⟩ : (0 ≤ at_ ∧ at_ ≤ 65535 ∧ 0 ≤ f1 ∧ f1 ≤ 65535) ∧ (if (b, at_) ∈ s then some (.inl (i : Int)) else if f1 ≥ (if b = true then (l3.length : Int) else (l4.length : Int)) then some (.inl (i : Int)) else relA l3 l4 l5 d (i + 1) ((b, at_) :: s)) = some res := by
        split at hb1
        · rename_i hw; exact ⟨hw, hb1⟩
        · cases hb1
      have HF := Aside0.mk hb0
      have HI := Aside0.mk hb1
      have HW := Aside0.mk hwf
      clear hI hb0 hb1 hwf
      cases e1
      go_wp2_with fail
      have HA1 := Aside0.mk (below_alloc HB.out (.cells #[.int .u8 f0, .int .u16 f1, .int .u16 f2] 43))
      have HB6 := Aside0.mk (heap_alloc_new wr (.cells #[.int .u8 f0, .int .u16 f1, .int .u16 f2] 43))
      have HK1 := Aside0.mk (blk_alloc HK.out (.cells #[.int .u8 f0, .int .u16 f1, .int .u16 f2] 43))
      have HO1 := Aside0.mk (HO.out.alloc (.cells #[.int .u8 f0, .int .u16 f1, .int .u16 f2] 43))
      clear hx0 hx1 hx2
      refine (valid_of.calls _ _ _ b at_ _ HF.out).mono ?_
      rintro e w2 ⟨rfl, hb2⟩
      have HB2 := Aside0.mk (below_step HA1.out hb2)
      have HK2 := Aside0.mk (blk_below HK1.out hb2)
      have HO2 := Aside0.mk (HO1.out.kept (grown_of_below hb2 none) (by simp))
      have HB62 := Aside0.mk (blk_below HB6.out hb2)
      have hlt2 : w.heap.size < w2.heap.size := blk_lt HK2.out
      have hlt3 : wr.heap.size < w2.heap.size := blk_lt HB62.out
      have hz0 : w2.cell? ⟨w.heap.size, 0, none⟩ = some (.string a0) := (blk_cell HK2.out 0).trans rfl
      have hz1 : w2.cell? ⟨w.heap.size, 1, none⟩ = some (.slice A1 l1.length c1) := (blk_cell HK2.out 1).trans rfl
      have hz2 : w2.cell? ⟨w.heap.size, 2, none⟩ = some (.slice A2 l2.length c2) := (blk_cell HK2.out 2).trans rfl
      have hz3 : w2.cell? ⟨w.heap.size, 3, none⟩ = some (.slice A3 l3.length c3) := (blk_cell HK2.out 3).trans rfl
      have hz4 : w2.cell? ⟨w.heap.size, 4, none⟩ = some (.slice A4 l4.length c4) := (blk_cell HK2.out 4).trans rfl
      have hz5 : w2.cell? ⟨w.heap.size, 5, none⟩ = some (.slice (some ad) l5.length c5) := (blk_cell HK2.out 5).trans rfl
      have hy0 : w2.cell? ⟨wr.heap.size, 0, none⟩ = some (.int .u8 f0) := (blk_cell HB62.out 0).trans rfl
      have hy1 : w2.cell? ⟨wr.heap.size, 1, none⟩ = some (.int .u16 f1) := (blk_cell HB62.out 1).trans rfl
      have hy2 : w2.cell? ⟨wr.heap.size, 2, none⟩ = some (.int .u16 f2) := (blk_cell HB62.out 2).trans rfl
      clear hb2 HA1 HK1 HO1 HB6 HK HO HB HB62
      have hlk := lookNamed (HO2.out.alloc (.cells #[.bool b, .int .u16 at_] 123)) HD.out b at_ HW.out.1 HW.out.2.1
      obtain ⟨n, hn⟩ : ∃ n : Int, n = (if b = true then (l3.length : Int) else (l4.length : Int)) := ⟨_, rfl⟩
      have HI2 := HI.out
      rw [← hn] at HI2
      cases b with
      | true =>
        simp only [if_true] at hn
        subst hn
        by_cases cs : (true, at_) ∈ s
        · rw [if_pos cs] at HI2
          obtain rfl := Option.some.inj HI2
          have H2 := H.out
          simp only [Option.some.injEq, Prod.mk.injEq] at H2
          obtain ⟨rfl, rfl⟩ := H2
          have cs' : decide ((true, at_) ∈ s) = true := decide_eq_true cs
          rw [cs'] at hlk
          clear HI2 HI cs cs' H
          go_wp2
          go_ret2
          exact ⟨rfl, below_alloc HB2.out _⟩
        rw [if_neg cs] at HI2
        have cs' : decide ((true, at_) ∈ s) = false := decide_eq_false cs
        rw [cs'] at hlk
        have hw0 := HW.out.2.2.1
        have hw1 := HW.out.2.2.2
        by_cases cl : f1 ≥ (l3.length : Int)
        · rw [if_pos cl] at HI2
          obtain rfl := Option.some.inj HI2
          have H2 := H.out
          simp only [Option.some.injEq, Prod.mk.injEq] at H2
          obtain ⟨rfl, rfl⟩ := H2
          have cl' : decide ((l3.length : Int) ≤ f1) = true := decide_eq_true cl
          clear HI2 HI cs cs' H cl
          go_wp2
          go_ret2
          exact ⟨rfl, below_alloc HB2.out _⟩
        rw [if_neg cl] at HI2
        have HI3 := Aside0.mk HI2
        have cl' : decide ((l3.length : Int) ≤ f1) = false := decide_eq_false cl
        clear HI2 HI cs cs' cl
        go_wp2_with (at_mapUpdate; refine wpList_mapUpdate_own _ rfl _ _ _ 121 rfl 123 4 law123 Tryd.underlying121 (plainElem (H := Unit) Tryd.prog 4) (w.heap.size + 1) i D rfl (HO2.out.alloc _) (by unfold maxLen; omega) _ _ (keyL true at_) rfl rfl (keyOf123 true at_ HW.out.1 HW.out.2.1 default) (.lit (.bool true)) [] (plainElem_bool Tryd.underlying4 true) ?_; intro w3 hown3 hgrow3)
        have HK3 := Aside0.mk (blk_grown (blk_alloc HK2.out _) hgrow3 (by simp))
        have HB3 := Aside0.mk ((below_alloc HB2.out _).grown hgrow3 (by simp; omega) (fun k hk => by cases hk; omega))
        have HO3 := Aside0.mk hown3
        have HD3 := Aside0.mk (HD.out.put true at_ HW.out.1 HW.out.2.1)
        clear hlk hgrow3 hown3
        go_wp2
        go_roundw
        case rel => exact ⟨i + 1, d, _, _, by go_num, by omega, HI3, by omega, HD3, HK3, HO3, HB3⟩
        case measure => simp [RowKit.intOf]; omega
      | false =>
        simp only [Bool.false_eq_true, if_false] at hn
        subst hn
        by_cases cs : (false, at_) ∈ s
        · rw [if_pos cs] at HI2
          obtain rfl := Option.some.inj HI2
          have H2 := H.out
          simp only [Option.some.injEq, Prod.mk.injEq] at H2
          obtain ⟨rfl, rfl⟩ := H2
          have cs' : decide ((false, at_) ∈ s) = true := decide_eq_true cs
          rw [cs'] at hlk
          clear HI2 HI cs cs' H
          go_wp2
          go_ret2
          exact ⟨rfl, below_alloc HB2.out _⟩
        rw [if_neg cs] at HI2
        have cs' : decide ((false, at_) ∈ s) = false := decide_eq_false cs
        rw [cs'] at hlk
        have hw0 := HW.out.2.2.1
        have hw1 := HW.out.2.2.2
        by_cases cl : f1 ≥ (l4.length : Int)
        · rw [if_pos cl] at HI2
          obtain rfl := Option.some.inj HI2
          have H2 := H.out
          simp only [Option.some.injEq, Prod.mk.injEq] at H2
          obtain ⟨rfl, rfl⟩ := H2
          have cl' : decide ((l4.length : Int) ≤ f1) = true := decide_eq_true cl
          clear HI2 HI cs cs' H cl
          go_wp2
          go_ret2
          exact ⟨rfl, below_alloc HB2.out _⟩
        rw [if_neg cl] at HI2
        have HI3 := Aside0.mk HI2
        have cl' : decide ((l4.length : Int) ≤ f1) = false := decide_eq_false cl
        clear HI2 HI cs cs' cl
        go_wp2_with (at_mapUpdate; refine wpList_mapUpdate_own _ rfl _ _ _ 121 rfl 123 4 law123 Tryd.underlying121 (plainElem (H := Unit) Tryd.prog 4) (w.heap.size + 1) i D rfl (HO2.out.alloc _) (by unfold maxLen; omega) _ _ (keyL false at_) rfl rfl (keyOf123 false at_ HW.out.1 HW.out.2.1 default) (.lit (.bool true)) [] (plainElem_bool Tryd.underlying4 true) ?_; intro w3 hown3 hgrow3)
        have HK3 := Aside0.mk (blk_grown (blk_alloc HK2.out _) hgrow3 (by simp))
        have HB3 := Aside0.mk ((below_alloc HB2.out _).grown hgrow3 (by simp; omega) (fun k hk => by cases hk; omega))
        have HO3 := Aside0.mk hown3
        have HD3 := Aside0.mk (HD.out.put false at_ HW.out.1 HW.out.2.1)
        clear hlk hgrow3 hown3
        go_wp2
        go_roundw
        case rel => exact ⟨i + 1, d, _, _, by go_num, by omega, HI3, by omega, HD3, HK3, HO3, HB3⟩
        case measure => simp [RowKit.intOf]; omega
    · have hd1 : decide ((i : Int) < (l5.length : Int)) = false := decide_eq_false (by omega)
      have hI2 := hI.out
      have hres : res = .inr s := by
        have hE : some (Sum.inr s) = some res := by
          rw [← hI2]
          cases d with
          | zero => rfl
          | succ d => simp only [relA, if_neg hlt]
        exact (Option.some.inj hE).symm
      subst hres
      clear hI hI2
      have H1 := H.out
      simp only at H1
      obtain ⟨x1, h1, H1⟩ := Option.bind_eq_some_iff.1 H1
      have HX1 := Aside0.mk h1
      clear h1 H
      have hlt2 : w.heap.size < wr.heap.size := blk_lt HK.out
      have hz0 : wr.cell? ⟨w.heap.size, 0, none⟩ = some (.string a0) := (blk_cell HK.out 0).trans rfl
      have hz1 : wr.cell? ⟨w.heap.size, 1, none⟩ = some (.slice A1 l1.length c1) := (blk_cell HK.out 1).trans rfl
      have hz2 : wr.cell? ⟨w.heap.size, 2, none⟩ = some (.slice A2 l2.length c2) := (blk_cell HK.out 2).trans rfl
      have hz3 : wr.cell? ⟨w.heap.size, 3, none⟩ = some (.slice A3 l3.length c3) := (blk_cell HK.out 3).trans rfl
      have hz4 : wr.cell? ⟨w.heap.size, 4, none⟩ = some (.slice A4 l4.length c4) := (blk_cell HK.out 4).trans rfl
      have hz5 : wr.cell? ⟨w.heap.size, 5, none⟩ = some (.slice A5 l5.length c5) := (blk_cell HK.out 5).trans rfl
      have hr1 := Aside0.mk (Kd.C_below hr1 HB.out)
      have hr2 := Aside0.mk (Kd.C_below hr2 HB.out)
      have hr3 := Aside0.mk (Kd.C_below hr3 HB.out)
      have hr4 := Aside0.mk (Kd.C_below hr4 HB.out)
      have hr5 := Aside0.mk (Kd.C_below hr5 HB.out)
      by_cases g1 : x1 ≥ 0
      · rw [if_pos g1] at H1
        simp only [Option.some.injEq, Prod.mk.injEq] at H1
        obtain ⟨rfl, rfl⟩ := H1
        have g1' : decide (0 ≤ x1) = true := decide_eq_true g1
        clear g1
        go_wp2_with fail
        refine (IndexFunc79.calls k a0 _ c1 l1 _ c2 l2 _ c3 l3 _ c4 l4 _ c5 l5 w.heap.size x1 _ HK.out hr1.out hc1 hr2.out hc2 hr3.out hc3 hr4.out hc4 hr5.out hc5 HX1.out).mono ?_
        rintro e w3 ⟨rfl, hb3⟩
        have HB3 := Aside0.mk (below_step HB.out hb3)
        clear hb3
        go_wp2
        go_ret2
        exact ⟨rfl, HB3.out⟩
      rw [if_neg g1] at H1
      obtain ⟨x2, h2, H1⟩ := Option.bind_eq_some_iff.1 H1
      have HX2 := Aside0.mk h2
      have g1' : decide (0 ≤ x1) = false := decide_eq_false g1
      clear h2 g1
      have H1 := Aside0.mk H1
      go_wp2_with fail
      refine (IndexFunc79.calls k a0 _ c1 l1 _ c2 l2 _ c3 l3 _ c4 l4 _ c5 l5 w.heap.size x1 _ HK.out hr1.out hc1 hr2.out hc2 hr3.out hc3 hr4.out hc4 hr5.out hc5 HX1.out).mono ?_
      rintro e w3 ⟨rfl, hb3⟩
      have HB3 := Aside0.mk (below_step HB.out hb3)
      have HK3 := Aside0.mk (blk_below HK.out hb3)
      have HO3 := Aside0.mk (HO.out.kept (grown_of_below hb3 none) (by simp))
      have hlt3 : w.heap.size < w3.heap.size := blk_lt HK3.out
      have hs1 := Aside0.mk (Kd.C_below hr1.out hb3)
      have hs2 := Aside0.mk (Kd.C_below hr2.out hb3)
      have hs3 := Aside0.mk (Kd.C_below hr3.out hb3)
      have hs4 := Aside0.mk (Kd.C_below hr4.out hb3)
      have hs5 := Aside0.mk (Kd.C_below hr5.out hb3)
      clear hb3 hr1 hr2 hr3 hr4 hr5 HX1 hz0 hz1 hz2 hz3 hz4 hz5 HB HK HO
      have hz0 : w3.cell? ⟨w.heap.size, 0, none⟩ = some (.string a0) := (blk_cell HK3.out 0).trans rfl
      have hz1 : w3.cell? ⟨w.heap.size, 1, none⟩ = some (.slice A1 l1.length c1) := (blk_cell HK3.out 1).trans rfl
      have hz2 : w3.cell? ⟨w.heap.size, 2, none⟩ = some (.slice A2 l2.length c2) := (blk_cell HK3.out 2).trans rfl
      have hz3 : w3.cell? ⟨w.heap.size, 3, none⟩ = some (.slice A3 l3.length c3) := (blk_cell HK3.out 3).trans rfl
      have hz4 : w3.cell? ⟨w.heap.size, 4, none⟩ = some (.slice A4 l4.length c4) := (blk_cell HK3.out 4).trans rfl
      have hz5 : w3.cell? ⟨w.heap.size, 5, none⟩ = some (.slice A5 l5.length c5) := (blk_cell HK3.out 5).trans rfl
      have H1 := H1.out
      by_cases g2 : x2 ≥ 0
      · rw [if_pos g2] at H1
        simp only [Option.some.injEq, Prod.mk.injEq] at H1
        obtain ⟨rfl, rfl⟩ := H1
        have g2' : decide (0 ≤ x2) = true := decide_eq_true g2
        clear g2
        go_wp2_with fail
        refine (IndexFunc81.calls k a0 _ c1 l1 _ c2 l2 _ c3 l3 _ c4 l4 _ c5 l5 w.heap.size x2 _ HK3.out hs1.out hc1 hs2.out hc2 hs3.out hc3 hs4.out hc4 hs5.out hc5 HX2.out).mono ?_
        rintro e w4 ⟨rfl, hb4⟩
        have HB4 := Aside0.mk (below_step HB3.out hb4)
        clear hb4
        go_wp2
        go_ret2
        exact ⟨rfl, HB4.out⟩
      rw [if_neg g2] at H1
      have g2' : decide (0 ≤ x2) = false := decide_eq_false g2
      have H1 := Aside0.mk H1
      clear g2
      go_wp2_with fail
      refine (IndexFunc81.calls k a0 _ c1 l1 _ c2 l2 _ c3 l3 _ c4 l4 _ c5 l5 w.heap.size x2 _ HK3.out hs1.out hc1 hs2.out hc2 hs3.out hc3 hs4.out hc4 hs5.out hc5 HX2.out).mono ?_
      rintro e w4 ⟨rfl, hb4⟩
      have HB4 := Aside0.mk (below_step HB3.out hb4)
      have HK4 := Aside0.mk (blk_below HK3.out hb4)
      have HO4 := Aside0.mk (HO3.out.kept (grown_of_below hb4 none) (by simp))
      have ht3 := Aside0.mk (Kd.C_below hs3.out hb4)
      have hlt4 : w.heap.size < w4.heap.size := blk_lt HK4.out
      have HM3 := Aside0.mk (show l3.length ≤ 9223372036854775807 from ht3.out.2.1)
      clear hb4 hs1 hs2 hs3 hs4 hs5 HX2 hz0 hz1 hz2 hz3 hz4 hz5 HB3 HK3 HO3
      have hz0 : w4.cell? ⟨w.heap.size, 0, none⟩ = some (.string a0) := (blk_cell HK4.out 0).trans rfl
      have hz1 : w4.cell? ⟨w.heap.size, 1, none⟩ = some (.slice A1 l1.length c1) := (blk_cell HK4.out 1).trans rfl
      have hz2 : w4.cell? ⟨w.heap.size, 2, none⟩ = some (.slice A2 l2.length c2) := (blk_cell HK4.out 2).trans rfl
      have hz3 : w4.cell? ⟨w.heap.size, 3, none⟩ = some (.slice A3 l3.length c3) := (blk_cell HK4.out 3).trans rfl
      have hz4 : w4.cell? ⟨w.heap.size, 4, none⟩ = some (.slice A4 l4.length c4) := (blk_cell HK4.out 4).trans rfl
      have hz5 : w4.cell? ⟨w.heap.size, 5, none⟩ = some (.slice A5 l5.length c5) := (blk_cell HK4.out 5).trans rfl
      go_wp2
      go_loopw [11, 12, 13, 14, 65] (fun _ _ _ _ n W => ∃ (j e : Nat), n = .int .i64 j ∧ j ≤ l3.length ∧ Aside0 (relD k l3 s e j = some (r1, r2)) ∧ l3.length ≤ j + e ∧ Aside0 (W.ownsMap Tryd.prog 123 (plainElem (H := Unit) Tryd.prog 4) (w.heap.size + 1) i D) ∧ Aside0 (Kd.C (Kd.int .u32) W A3 l3.length l3) ∧ Aside0 (Below w.heap.size w W)) (fun _ _ _ _ n _ => l3.length - (RowKit.intOf n).toNat)
      case atStart => exact ⟨0, l3.length, rfl, Nat.zero_le _, H1, by omega, HO4, ht3, HB4⟩
      case round =>
        clear hz0 hz1 hz2 hz3 hz4 hz5
        obtain ⟨j, e, rfl, hj, hI, he, HO, HC, HB⟩ := hrel
        have hlm3 := HM3.out
        by_cases hlj : j < l3.length
        · have hd1 : decide ((j : Int) < (l3.length : Int)) = true := decide_eq_true (by omega)
          obtain ⟨ad3, e3, hx3⟩ := Kd.at_int HC.out (j : Int) (by omega) (by omega)
          simp only [Int.toNat_natCast] at hx3
          cases e with
          | zero => omega
          | succ e =>
          have hI := hI.out
          simp only [relD, if_pos hlj] at hI
          obtain ⟨⟨y1, y2, y3, y4, y5, y6⟩, hd0, hI⟩ := Option.bind_eq_some_iff.1 hI
          have HF := Aside0.mk hd0
          cases e3
          clear hd0
          go_wp2_with fail
          refine (isa_Decode.calls k _ y1 y2 y3 y4 y5 y6 _ HF.out).mono ?_
          rintro e w5 ⟨rfl, hb5⟩
          have HB5 := Aside0.mk (below_step HB.out hb5)
          have HO5 := Aside0.mk (HO.out.kept (grown_of_below hb5 none) (by simp))
          have HC5 := Aside0.mk (Kd.C_below HC.out hb5)
          clear hb5 HB HO HC hx3
          have hlk := lookNamed (HO5.out.alloc (.cells #[.int .u8 y1, .int .u8 y2, .int .u8 y3, .int .u8 y4, .int .i32 y5] 47)) HD.out true ((j : Int) % 65536) (by omega) (by omega)
          have ew : IntKind.u16.wrap (j : Int) = (j : Int) % 65536 := by simp [IntKind.wrap, IntKind.signed, IntKind.bits]
          rw [← ew] at hlk
          rw [← ew] at hI
          clear ew
          have next : ∀ (hI : relD k l3 s e (j + 1) = some (r1, r2)), Aside0 (relD k l3 s e (j + 1) = some (r1, r2)) := fun h => ⟨h⟩
          by_cases cy : y1 = 17
          · have cy' : (y1 == 17) = true := beq_iff_eq.2 cy
            by_cases cs : (true, IntKind.u16.wrap (j : Int)) ∈ s
            · rw [if_neg (fun h => h.2 cs)] at hI
              have HE := next hI
              have cs' : decide ((true, IntKind.u16.wrap (j : Int)) ∈ s) = true := decide_eq_true cs
              rw [cs'] at hlk
              clear hI cs cs' cy next
              go_wp2
              go_roundw
              case rel => exact ⟨j + 1, e, by go_num, by omega, HE, by omega, ⟨HO5.out.alloc _⟩, ⟨Kd.C_alloc HC5.out _⟩, ⟨below_alloc HB5.out _⟩⟩
              case measure => simp [RowKit.intOf]; omega
            · rw [if_pos ⟨cy, cs⟩] at hI
              simp only [Option.some.injEq, Prod.mk.injEq] at hI
              obtain ⟨rfl, rfl⟩ := hI
              have cs' : decide ((true, IntKind.u16.wrap (j : Int)) ∈ s) = false := decide_eq_false cs
              rw [cs'] at hlk
              clear cs cs' cy next H1
              go_wp2
              go_ret2
              exact ⟨rfl, below_alloc HB5.out _⟩
          · have cy' : (y1 == 17) = false := beq_eq_false_iff_ne.2 cy
            rw [if_neg (fun h => cy h.1)] at hI
            have HE := next hI
            clear hI cy next hlk
            go_wp2
            go_roundw
            case rel => exact ⟨j + 1, e, by go_num, by omega, HE, by omega, ⟨HO5.out.alloc _⟩, ⟨Kd.C_alloc HC5.out _⟩, ⟨below_alloc HB5.out _⟩⟩
            case measure => simp [RowKit.intOf]; omega
        · have hd1 : decide ((j : Int) < (l3.length : Int)) = false := decide_eq_false (by omega)
          have hI2 := hI.out
          have hE : some (0, 0) = some (r1, r2) := by
            rw [← hI2]
            cases e with
            | zero => rfl
            | succ e => simp only [relD, if_neg hlj]
          simp only [Option.some.injEq, Prod.mk.injEq] at hE
          obtain ⟨rfl, rfl⟩ := hE
          clear hI hI2 H1
          go_wp2
          go_ret2
          exact ⟨rfl, HB.out⟩
end Go.Proofs.YtiphindialkmnaaDoor.X
end
section
namespace Go.Proofs.YtiphindialkmnaaDoor.X
open Go.RowKit Go.Proofs.YtiphindialkmnaaDoorW.PrintWords Go.Proofs.YtiphindialkmnaaDoorW.PrintLast Go.Proofs.YtiphindialkmnaaDoorW.PrintMore
attribute [local go_sem] max2_int min2_int max_two min_two max_three min_three max_four min_four
set_option linter.unusedVariables false
set_option linter.unusedSimpArgs false

/-! ### valid_Module: function 16 -/
def valid_Module.f (k : Nat) (a0_0 : ByteArray) (l0_1 : List ByteArray) (l0_2 : List ByteArray) (l0_3 : List Int) (l0_4 : List Int) (l0_5 : List (S43)) : Option (Int × Int) := (object_Check.f k a0_0 l0_1 l0_2 l0_3 l0_4 l0_5).bind fun t102 => (if t102 = 0 then ((valid_texts.f k a0_0 l0_1 l0_2 l0_3 l0_4 l0_5).bind fun bt103 => (if bt103.1 = 0 then ((valid_words.f k a0_0 l0_1 l0_2 l0_3 l0_4 l0_5).bind fun bt105 => (if bt105.1 = 0 then ((valid_relocs.f k a0_0 l0_1 l0_2 l0_3 l0_4 l0_5).bind fun bt107 => (some (bt107.1, bt107.2))) else (some (bt105.1, bt105.2)))) else (some (bt103.1, bt103.2)))) else (some (1, 0)))
theorem valid_Module.mono : ∀ a0 a1 a2 a3 a4 a5 k, LeO (valid_Module.f k a0 a1 a2 a3 a4 a5) (valid_Module.f (k + 1) a0 a1 a2 a3 a4 a5) := by
 intro a0 a1 a2 a3 a4 a5 k
 unfold valid_Module.f
 repeat' first
   | (with_reducible exact object_Check.mono _ _ _ _ _ _ _)
   | (with_reducible exact valid_relocs.mono _ _ _ _ _ _ _)
   | (with_reducible exact valid_texts.mono _ _ _ _ _ _ _)
   | (with_reducible exact valid_words.mono _ _ _ _ _ _ _)
   | (with_reducible exact LeO.refl _)
   | (with_reducible exact LeO.none _)
   | (with_reducible refine LeO.ite ?_ ?_)
   | (with_reducible refine LeO.bind ?_ (fun _ => ?_))
   | exact object_Check.mono _ _ _ _ _ _ _
   | exact valid_relocs.mono _ _ _ _ _ _ _
   | exact valid_texts.mono _ _ _ _ _ _ _
   | exact valid_words.mono _ _ _ _ _ _ _
   | exact LeO.none _
   | refine LeO.ite ?_ ?_
   | refine LeO.bind ?_ (fun _ => ?_)
set_option maxHeartbeats 8000000 in
set_option maxRecDepth 100000 in
theorem valid_Module.calls (k : Nat) (a0_0 : ByteArray) (A0_1 : Option Addr) (c0_1 : Nat) (l0_1 : List ByteArray) (A0_2 : Option Addr) (c0_2 : Nat) (l0_2 : List ByteArray) (A0_3 : Option Addr) (c0_3 : Nat) (l0_3 : List Int) (A0_4 : Option Addr) (c0_4 : Nat) (l0_4 : List Int) (A0_5 : Option Addr) (c0_5 : Nat) (l0_5 : List (S43)) (r1 : Int) (r2 : Int) (w : World) (hG : Glob w) (hr0_1 : Kd.C Kd.string w A0_1 l0_1.length l0_1) (hc0_1 : l0_1.length ≤ c0_1) (hr0_2 : Kd.C Kd.string w A0_2 l0_2.length l0_2) (hc0_2 : l0_2.length ≤ c0_2) (hr0_3 : Kd.C (Kd.int .u32) w A0_3 l0_3.length l0_3) (hc0_3 : l0_3.length ≤ c0_3) (hr0_4 : Kd.C (Kd.int .u32) w A0_4 l0_4.length l0_4) (hc0_4 : l0_4.length ≤ c0_4) (hr0_5 : Kd.C k43 w A0_5 l0_5.length l0_5) (hc0_5 : l0_5.length ≤ c0_5) (h : valid_Module.f k a0_0 l0_1 l0_2 l0_3 l0_4 l0_5 = some (r1, r2)) :
  Calls Tryd.prog 16 #[.agg #[.string a0_0, .slice A0_1 l0_1.length c0_1, .slice A0_2 l0_2.length c0_2, .slice A0_3 l0_3.length c0_3, .slice A0_4 l0_4.length c0_4, .slice A0_5 l0_5.length c0_5]] w fun e w' => e = .returned (.tuple #[.int .u8 r1, .int .i64 r2]) ∧ Below w.heap.size w w' := by
 have hu26 := Tryd.underlying26
 have HR0_1 := Aside0.mk hr0_1
 have HC0_1 := Aside0.mk hc0_1
 clear hr0_1 hc0_1
 have HR0_2 := Aside0.mk hr0_2
 have HC0_2 := Aside0.mk hc0_2
 clear hr0_2 hc0_2
 have HR0_3 := Aside0.mk hr0_3
 have HC0_3 := Aside0.mk hc0_3
 clear hr0_3 hc0_3
 have HR0_4 := Aside0.mk hr0_4
 have HC0_4 := Aside0.mk hc0_4
 clear hr0_4 hc0_4
 have HR0_5 := Aside0.mk hr0_5
 have HC0_5 := Aside0.mk hc0_5
 clear hr0_5 hc0_5
 have HG := Aside0.mk hG
 clear hG
 have HB := Aside0.mk (Below.refl w.heap.size w)
 have H : ((object_Check.f k a0_0 l0_1 l0_2 l0_3 l0_4 l0_5).bind fun t102 => (if t102 = 0 then ((valid_texts.f k a0_0 l0_1 l0_2 l0_3 l0_4 l0_5).bind fun bt103 => (if bt103.1 = 0 then ((valid_words.f k a0_0 l0_1 l0_2 l0_3 l0_4 l0_5).bind fun bt105 => (if bt105.1 = 0 then ((valid_relocs.f k a0_0 l0_1 l0_2 l0_3 l0_4 l0_5).bind fun bt107 => (some (bt107.1, bt107.2))) else (some (bt105.1, bt105.2)))) else (some (bt103.1, bt103.2)))) else (some (1, 0)))) = some (r1, r2) := h
 clear h
 replace H := Option.bind_eq_some_iff.mp H
 obtain ⟨t102, A20, H⟩ := H
 replace H : (if t102 = 0 then ((valid_texts.f k a0_0 l0_1 l0_2 l0_3 l0_4 l0_5).bind fun bt103 => (if bt103.1 = 0 then ((valid_words.f k a0_0 l0_1 l0_2 l0_3 l0_4 l0_5).bind fun bt105 => (if bt105.1 = 0 then ((valid_relocs.f k a0_0 l0_1 l0_2 l0_3 l0_4 l0_5).bind fun bt107 => (some (bt107.1, bt107.2))) else (some (bt105.1, bt105.2)))) else (some (bt103.1, bt103.2)))) else (some (1, 0))) = some (r1, r2) := H
 have A2 := Aside0.mk A20
 clear A20
 by_cases c3 : t102 = 0
 ·rw [if_pos c3] at H
  have c3b0 : (t102 == 0) = true := beq_iff_eq.mpr c3
  have c3b1 : (t102 != 0) = false := bne_eq_false_iff_eq.mpr c3
  clear c3
  replace H := Option.bind_eq_some_iff.mp H
  obtain ⟨⟨t103, t104⟩, A40, H⟩ := H
  replace H : (if t103 = 0 then ((valid_words.f k a0_0 l0_1 l0_2 l0_3 l0_4 l0_5).bind fun bt105 => (if bt105.1 = 0 then ((valid_relocs.f k a0_0 l0_1 l0_2 l0_3 l0_4 l0_5).bind fun bt107 => (some (bt107.1, bt107.2))) else (some (bt105.1, bt105.2)))) else (some (t103, t104))) = some (r1, r2) := H
  have A4 := Aside0.mk A40
  clear A40
  by_cases c5 : t103 = 0
  ·rw [if_pos c5] at H
   have c5b0 : (t103 == 0) = true := beq_iff_eq.mpr c5
   have c5b1 : (t103 != 0) = false := bne_eq_false_iff_eq.mpr c5
   clear c5
   replace H := Option.bind_eq_some_iff.mp H
   obtain ⟨⟨t105, t106⟩, A60, H⟩ := H
   replace H : (if t105 = 0 then ((valid_relocs.f k a0_0 l0_1 l0_2 l0_3 l0_4 l0_5).bind fun bt107 => (some (bt107.1, bt107.2))) else (some (t105, t106))) = some (r1, r2) := H
   have A6 := Aside0.mk A60
   clear A60
   by_cases c7 : t105 = 0
   ·rw [if_pos c7] at H
    have c7b0 : (t105 == 0) = true := beq_iff_eq.mpr c7
    have c7b1 : (t105 != 0) = false := bne_eq_false_iff_eq.mpr c7
    clear c7
    replace H := Option.bind_eq_some_iff.mp H
    obtain ⟨⟨t107, t108⟩, A80, H⟩ := H
    replace H : (some (t107, t108)) = some (r1, r2) := H
    have A8 := Aside0.mk A80
    clear A80
    simp only [Option.some.injEq, Prod.mk.injEq] at H
    obtain ⟨rfl, rfl⟩ := H
    go_enter Tryd.func16, Tryd.ntmps16
    go_wp2_with (first | ((with_reducible refine gate_dst (N := 1) rfl ?_); refine box_event ?hg (N := 1) ?hd (cs := #[.string a0_0, .slice A0_1 l0_1.length c0_1, .slice A0_2 l0_2.length c0_2, .slice A0_3 l0_3.length c0_3, .slice A0_4 l0_4.length c0_4, .slice A0_5 l0_5.length c0_5]) (t := 26) ?hr ?_; (case hd => rfl); (case hg => rfl); (case hr => first | (go_simp; done) | (go_simp; rfl)); intro gb101 hg w9 hbox hb; have n0_ := Aside0.mk (below_step (tg HB.out) hb); have n1_ := Aside0.mk (hbox); have n2_ := Aside0.mk ((by rw [hg]; exact (below_size (tg HB.out)) : w.heap.size ≤ gb101)); have n3_ := Aside0.mk ((by rw [hg]; exact (below_size (tg HB.out)) : w.heap.size ≤ gb101)); clear HB; have HB := n0_; have BK101 := n1_; have GW101 := n2_; have GE101 := n3_; clear n0_ n1_ n2_ n3_; clear hb hbox hg; have hcz10_0 := cz BK101.out 0 (.string a0_0); have hcz10_1 := cz BK101.out 1 (.slice A0_1 l0_1.length c0_1); have hcz10_2 := cz BK101.out 2 (.slice A0_2 l0_2.length c0_2); have hcz10_3 := cz BK101.out 3 (.slice A0_3 l0_3.length c0_3); have hcz10_4 := cz BK101.out 4 (.slice A0_4 l0_4.length c0_4); have hcz10_5 := cz BK101.out 5 (.slice A0_5 l0_5.length c0_5); have hfz10_0 := blk_frozen BK101.out 0; have hfz10_1 := blk_frozen BK101.out 1; have hfz10_2 := blk_frozen BK101.out 2; have hfz10_3 := blk_frozen BK101.out 3; have hfz10_4 := blk_frozen BK101.out 4; have hfz10_5 := blk_frozen BK101.out 5) | ((with_reducible refine gate_callee (f := 37) rfl ?_); refine goesL_ (some 9) rfl rfl Tryd.func37 (by kernel_rfl) rfl #[.agg #[.string a0_0, .slice A0_1 l0_1.length c0_1, .slice A0_2 l0_2.length c0_2, .slice A0_3 l0_3.length c0_3, .slice A0_4 l0_4.length c0_4, .slice A0_5 l0_5.length c0_5]] rfl tm ?_; (with_reducible refine (object_Check.calls k a0_0 _ _ l0_1 _ _ l0_2 _ _ l0_3 _ _ l0_4 _ _ l0_5 t102 _ ?side1 ?side2 ?side3 ?side4 ?side5 ?side6 ?side7 ?side8 ?side9 ?side10 A2.out).mono ?_); (case side1 => exact tc (Kd.C_below HR0_1.out HB.out)); (case side2 => exact HC0_1.out); (case side3 => exact tc (Kd.C_below HR0_2.out HB.out)); (case side4 => exact HC0_2.out); (case side5 => exact tc (Kd.C_below HR0_3.out HB.out)); (case side6 => exact HC0_3.out); (case side7 => exact tc (Kd.C_below HR0_4.out HB.out)); (case side8 => exact HC0_4.out); (case side9 => exact tc (Kd.C_below HR0_5.out HB.out)); (case side10 => exact HC0_5.out); rintro e w11 ⟨rfl, hb⟩; refine ⟨_, rfl, ?_⟩; replace BK101 := ba BK101.out hb; replace HB := Aside0.mk (below_step (tg1 HB.out GE101.out) hb); (try clear hb); (try clear hb2); (try clear hk); (try clear hi); have hcz12_0 := cz BK101.out 0 (.string a0_0); have hcz12_1 := cz BK101.out 1 (.slice A0_1 l0_1.length c0_1); have hcz12_2 := cz BK101.out 2 (.slice A0_2 l0_2.length c0_2); have hcz12_3 := cz BK101.out 3 (.slice A0_3 l0_3.length c0_3); have hcz12_4 := cz BK101.out 4 (.slice A0_4 l0_4.length c0_4); have hcz12_5 := cz BK101.out 5 (.slice A0_5 l0_5.length c0_5); have hfz12_0 := blk_frozen BK101.out 0; have hfz12_1 := blk_frozen BK101.out 1; have hfz12_2 := blk_frozen BK101.out 2; have hfz12_3 := blk_frozen BK101.out 3; have hfz12_4 := blk_frozen BK101.out 4; have hfz12_5 := blk_frozen BK101.out 5) | ((with_reducible refine gate_callee (f := 38) rfl ?_); refine goesL_ (some 13) rfl rfl Tryd.func38 (by kernel_rfl) rfl #[.agg #[.string a0_0, .slice A0_1 l0_1.length c0_1, .slice A0_2 l0_2.length c0_2, .slice A0_3 l0_3.length c0_3, .slice A0_4 l0_4.length c0_4, .slice A0_5 l0_5.length c0_5]] rfl tm ?_; (with_reducible refine (valid_texts.calls k a0_0 _ _ l0_1 _ _ l0_2 _ _ l0_3 _ _ l0_4 _ _ l0_5 t103 t104 _ ?side11 ?side1 ?side2 ?side3 ?side4 ?side5 ?side6 ?side7 ?side8 ?side9 ?side10 A4.out).mono ?_); (case side1 => exact tc (Kd.C_below HR0_1.out HB.out)); (case side2 => exact HC0_1.out); (case side3 => exact tc (Kd.C_below HR0_2.out HB.out)); (case side4 => exact HC0_2.out); (case side5 => exact tc (Kd.C_below HR0_3.out HB.out)); (case side6 => exact HC0_3.out); (case side7 => exact tc (Kd.C_below HR0_4.out HB.out)); (case side8 => exact HC0_4.out); (case side9 => exact tc (Kd.C_below HR0_5.out HB.out)); (case side10 => exact HC0_5.out); (case side11 => first | exact HG.out | exact Glob.below HG.out (tg1 HB.out GE101.out)); rintro e w13 ⟨rfl, hb⟩; refine ⟨_, rfl, ?_⟩; replace BK101 := ba BK101.out hb; replace HB := Aside0.mk (below_step (tg1 HB.out GE101.out) hb); (try clear hb); (try clear hb2); (try clear hk); (try clear hi); have hcz14_0 := cz BK101.out 0 (.string a0_0); have hcz14_1 := cz BK101.out 1 (.slice A0_1 l0_1.length c0_1); have hcz14_2 := cz BK101.out 2 (.slice A0_2 l0_2.length c0_2); have hcz14_3 := cz BK101.out 3 (.slice A0_3 l0_3.length c0_3); have hcz14_4 := cz BK101.out 4 (.slice A0_4 l0_4.length c0_4); have hcz14_5 := cz BK101.out 5 (.slice A0_5 l0_5.length c0_5); have hfz14_0 := blk_frozen BK101.out 0; have hfz14_1 := blk_frozen BK101.out 1; have hfz14_2 := blk_frozen BK101.out 2; have hfz14_3 := blk_frozen BK101.out 3; have hfz14_4 := blk_frozen BK101.out 4; have hfz14_5 := blk_frozen BK101.out 5) | ((with_reducible refine gate_callee (f := 39) rfl ?_); refine goesL_ (some 22) rfl rfl Tryd.func39 (by kernel_rfl) rfl #[.agg #[.string a0_0, .slice A0_1 l0_1.length c0_1, .slice A0_2 l0_2.length c0_2, .slice A0_3 l0_3.length c0_3, .slice A0_4 l0_4.length c0_4, .slice A0_5 l0_5.length c0_5]] rfl tm ?_; (with_reducible refine (valid_words.calls k a0_0 _ _ l0_1 _ _ l0_2 _ _ l0_3 _ _ l0_4 _ _ l0_5 t105 t106 _ ?side1 ?side2 ?side3 ?side4 ?side5 ?side6 ?side7 ?side8 ?side9 ?side10 A6.out).mono ?_); (case side1 => exact tc (Kd.C_below HR0_1.out HB.out)); (case side2 => exact HC0_1.out); (case side3 => exact tc (Kd.C_below HR0_2.out HB.out)); (case side4 => exact HC0_2.out); (case side5 => exact tc (Kd.C_below HR0_3.out HB.out)); (case side6 => exact HC0_3.out); (case side7 => exact tc (Kd.C_below HR0_4.out HB.out)); (case side8 => exact HC0_4.out); (case side9 => exact tc (Kd.C_below HR0_5.out HB.out)); (case side10 => exact HC0_5.out); rintro e w15 ⟨rfl, hb⟩; refine ⟨_, rfl, ?_⟩; replace BK101 := ba BK101.out hb; replace HB := Aside0.mk (below_step (tg1 HB.out GE101.out) hb); (try clear hb); (try clear hb2); (try clear hk); (try clear hi); have hcz16_0 := cz BK101.out 0 (.string a0_0); have hcz16_1 := cz BK101.out 1 (.slice A0_1 l0_1.length c0_1); have hcz16_2 := cz BK101.out 2 (.slice A0_2 l0_2.length c0_2); have hcz16_3 := cz BK101.out 3 (.slice A0_3 l0_3.length c0_3); have hcz16_4 := cz BK101.out 4 (.slice A0_4 l0_4.length c0_4); have hcz16_5 := cz BK101.out 5 (.slice A0_5 l0_5.length c0_5); have hfz16_0 := blk_frozen BK101.out 0; have hfz16_1 := blk_frozen BK101.out 1; have hfz16_2 := blk_frozen BK101.out 2; have hfz16_3 := blk_frozen BK101.out 3; have hfz16_4 := blk_frozen BK101.out 4; have hfz16_5 := blk_frozen BK101.out 5) | ((with_reducible refine gate_callee (f := 40) rfl ?_); refine goesL_ (some 30) rfl rfl Tryd.func40 (by kernel_rfl) rfl #[.agg #[.string a0_0, .slice A0_1 l0_1.length c0_1, .slice A0_2 l0_2.length c0_2, .slice A0_3 l0_3.length c0_3, .slice A0_4 l0_4.length c0_4, .slice A0_5 l0_5.length c0_5]] rfl tm ?_; (with_reducible refine (valid_relocs.calls k a0_0 _ _ l0_1 _ _ l0_2 _ _ l0_3 _ _ l0_4 _ _ l0_5 t107 t108 _ ?side1 ?side2 ?side3 ?side4 ?side5 ?side6 ?side7 ?side8 ?side9 ?side10 A8.out).mono ?_); (case side1 => exact tc (Kd.C_below HR0_1.out HB.out)); (case side2 => exact HC0_1.out); (case side3 => exact tc (Kd.C_below HR0_2.out HB.out)); (case side4 => exact HC0_2.out); (case side5 => exact tc (Kd.C_below HR0_3.out HB.out)); (case side6 => exact HC0_3.out); (case side7 => exact tc (Kd.C_below HR0_4.out HB.out)); (case side8 => exact HC0_4.out); (case side9 => exact tc (Kd.C_below HR0_5.out HB.out)); (case side10 => exact HC0_5.out); rintro e w17 ⟨rfl, hb⟩; refine ⟨_, rfl, ?_⟩; replace BK101 := ba BK101.out hb; replace HB := Aside0.mk (below_step (tg1 HB.out GE101.out) hb); (try clear hb); (try clear hb2); (try clear hk); (try clear hi)))
    go_ret2
    exact ⟨by first | rfl | (simp [errW_none, errW_some] <;> rfl) | (simp [*, errW_none, errW_some] <;> rfl), tg1 HB.out GE101.out⟩
   ·rw [if_neg c7] at H
    have c7b0 : (t105 == 0) = false := beq_eq_false_iff_ne.mpr c7
    have c7b1 : (t105 != 0) = true := bne_iff_ne.mpr c7
    simp only [Option.some.injEq, Prod.mk.injEq] at H
    obtain ⟨rfl, rfl⟩ := H
    go_enter Tryd.func16, Tryd.ntmps16
    go_wp2_with (first | ((with_reducible refine gate_dst (N := 1) rfl ?_); refine box_event ?hg (N := 1) ?hd (cs := #[.string a0_0, .slice A0_1 l0_1.length c0_1, .slice A0_2 l0_2.length c0_2, .slice A0_3 l0_3.length c0_3, .slice A0_4 l0_4.length c0_4, .slice A0_5 l0_5.length c0_5]) (t := 26) ?hr ?_; (case hd => rfl); (case hg => rfl); (case hr => first | (go_simp; done) | (go_simp; rfl)); intro gb101 hg w18 hbox hb; have n0_ := Aside0.mk (below_step (tg HB.out) hb); have n1_ := Aside0.mk (hbox); have n2_ := Aside0.mk ((by rw [hg]; exact (below_size (tg HB.out)) : w.heap.size ≤ gb101)); have n3_ := Aside0.mk ((by rw [hg]; exact (below_size (tg HB.out)) : w.heap.size ≤ gb101)); clear HB; have HB := n0_; have BK101 := n1_; have GW101 := n2_; have GE101 := n3_; clear n0_ n1_ n2_ n3_; clear hb hbox hg; have hcz19_0 := cz BK101.out 0 (.string a0_0); have hcz19_1 := cz BK101.out 1 (.slice A0_1 l0_1.length c0_1); have hcz19_2 := cz BK101.out 2 (.slice A0_2 l0_2.length c0_2); have hcz19_3 := cz BK101.out 3 (.slice A0_3 l0_3.length c0_3); have hcz19_4 := cz BK101.out 4 (.slice A0_4 l0_4.length c0_4); have hcz19_5 := cz BK101.out 5 (.slice A0_5 l0_5.length c0_5); have hfz19_0 := blk_frozen BK101.out 0; have hfz19_1 := blk_frozen BK101.out 1; have hfz19_2 := blk_frozen BK101.out 2; have hfz19_3 := blk_frozen BK101.out 3; have hfz19_4 := blk_frozen BK101.out 4; have hfz19_5 := blk_frozen BK101.out 5) | ((with_reducible refine gate_callee (f := 37) rfl ?_); refine goesL_ (some 9) rfl rfl Tryd.func37 (by kernel_rfl) rfl #[.agg #[.string a0_0, .slice A0_1 l0_1.length c0_1, .slice A0_2 l0_2.length c0_2, .slice A0_3 l0_3.length c0_3, .slice A0_4 l0_4.length c0_4, .slice A0_5 l0_5.length c0_5]] rfl tm ?_; (with_reducible refine (object_Check.calls k a0_0 _ _ l0_1 _ _ l0_2 _ _ l0_3 _ _ l0_4 _ _ l0_5 t102 _ ?side1 ?side2 ?side3 ?side4 ?side5 ?side6 ?side7 ?side8 ?side9 ?side10 A2.out).mono ?_); (case side1 => exact tc (Kd.C_below HR0_1.out HB.out)); (case side2 => exact HC0_1.out); (case side3 => exact tc (Kd.C_below HR0_2.out HB.out)); (case side4 => exact HC0_2.out); (case side5 => exact tc (Kd.C_below HR0_3.out HB.out)); (case side6 => exact HC0_3.out); (case side7 => exact tc (Kd.C_below HR0_4.out HB.out)); (case side8 => exact HC0_4.out); (case side9 => exact tc (Kd.C_below HR0_5.out HB.out)); (case side10 => exact HC0_5.out); rintro e w20 ⟨rfl, hb⟩; refine ⟨_, rfl, ?_⟩; replace BK101 := ba BK101.out hb; replace HB := Aside0.mk (below_step (tg1 HB.out GE101.out) hb); (try clear hb); (try clear hb2); (try clear hk); (try clear hi); have hcz21_0 := cz BK101.out 0 (.string a0_0); have hcz21_1 := cz BK101.out 1 (.slice A0_1 l0_1.length c0_1); have hcz21_2 := cz BK101.out 2 (.slice A0_2 l0_2.length c0_2); have hcz21_3 := cz BK101.out 3 (.slice A0_3 l0_3.length c0_3); have hcz21_4 := cz BK101.out 4 (.slice A0_4 l0_4.length c0_4); have hcz21_5 := cz BK101.out 5 (.slice A0_5 l0_5.length c0_5); have hfz21_0 := blk_frozen BK101.out 0; have hfz21_1 := blk_frozen BK101.out 1; have hfz21_2 := blk_frozen BK101.out 2; have hfz21_3 := blk_frozen BK101.out 3; have hfz21_4 := blk_frozen BK101.out 4; have hfz21_5 := blk_frozen BK101.out 5) | ((with_reducible refine gate_callee (f := 38) rfl ?_); refine goesL_ (some 13) rfl rfl Tryd.func38 (by kernel_rfl) rfl #[.agg #[.string a0_0, .slice A0_1 l0_1.length c0_1, .slice A0_2 l0_2.length c0_2, .slice A0_3 l0_3.length c0_3, .slice A0_4 l0_4.length c0_4, .slice A0_5 l0_5.length c0_5]] rfl tm ?_; (with_reducible refine (valid_texts.calls k a0_0 _ _ l0_1 _ _ l0_2 _ _ l0_3 _ _ l0_4 _ _ l0_5 t103 t104 _ ?side11 ?side1 ?side2 ?side3 ?side4 ?side5 ?side6 ?side7 ?side8 ?side9 ?side10 A4.out).mono ?_); (case side1 => exact tc (Kd.C_below HR0_1.out HB.out)); (case side2 => exact HC0_1.out); (case side3 => exact tc (Kd.C_below HR0_2.out HB.out)); (case side4 => exact HC0_2.out); (case side5 => exact tc (Kd.C_below HR0_3.out HB.out)); (case side6 => exact HC0_3.out); (case side7 => exact tc (Kd.C_below HR0_4.out HB.out)); (case side8 => exact HC0_4.out); (case side9 => exact tc (Kd.C_below HR0_5.out HB.out)); (case side10 => exact HC0_5.out); (case side11 => first | exact HG.out | exact Glob.below HG.out (tg1 HB.out GE101.out)); rintro e w22 ⟨rfl, hb⟩; refine ⟨_, rfl, ?_⟩; replace BK101 := ba BK101.out hb; replace HB := Aside0.mk (below_step (tg1 HB.out GE101.out) hb); (try clear hb); (try clear hb2); (try clear hk); (try clear hi); have hcz23_0 := cz BK101.out 0 (.string a0_0); have hcz23_1 := cz BK101.out 1 (.slice A0_1 l0_1.length c0_1); have hcz23_2 := cz BK101.out 2 (.slice A0_2 l0_2.length c0_2); have hcz23_3 := cz BK101.out 3 (.slice A0_3 l0_3.length c0_3); have hcz23_4 := cz BK101.out 4 (.slice A0_4 l0_4.length c0_4); have hcz23_5 := cz BK101.out 5 (.slice A0_5 l0_5.length c0_5); have hfz23_0 := blk_frozen BK101.out 0; have hfz23_1 := blk_frozen BK101.out 1; have hfz23_2 := blk_frozen BK101.out 2; have hfz23_3 := blk_frozen BK101.out 3; have hfz23_4 := blk_frozen BK101.out 4; have hfz23_5 := blk_frozen BK101.out 5) | ((with_reducible refine gate_callee (f := 39) rfl ?_); refine goesL_ (some 22) rfl rfl Tryd.func39 (by kernel_rfl) rfl #[.agg #[.string a0_0, .slice A0_1 l0_1.length c0_1, .slice A0_2 l0_2.length c0_2, .slice A0_3 l0_3.length c0_3, .slice A0_4 l0_4.length c0_4, .slice A0_5 l0_5.length c0_5]] rfl tm ?_; (with_reducible refine (valid_words.calls k a0_0 _ _ l0_1 _ _ l0_2 _ _ l0_3 _ _ l0_4 _ _ l0_5 t105 t106 _ ?side1 ?side2 ?side3 ?side4 ?side5 ?side6 ?side7 ?side8 ?side9 ?side10 A6.out).mono ?_); (case side1 => exact tc (Kd.C_below HR0_1.out HB.out)); (case side2 => exact HC0_1.out); (case side3 => exact tc (Kd.C_below HR0_2.out HB.out)); (case side4 => exact HC0_2.out); (case side5 => exact tc (Kd.C_below HR0_3.out HB.out)); (case side6 => exact HC0_3.out); (case side7 => exact tc (Kd.C_below HR0_4.out HB.out)); (case side8 => exact HC0_4.out); (case side9 => exact tc (Kd.C_below HR0_5.out HB.out)); (case side10 => exact HC0_5.out); rintro e w24 ⟨rfl, hb⟩; refine ⟨_, rfl, ?_⟩; replace BK101 := ba BK101.out hb; replace HB := Aside0.mk (below_step (tg1 HB.out GE101.out) hb); (try clear hb); (try clear hb2); (try clear hk); (try clear hi)))
    go_ret2
    exact ⟨by first | rfl | (simp [errW_none, errW_some] <;> rfl) | (simp [*, errW_none, errW_some] <;> rfl), tg1 HB.out GE101.out⟩
  ·rw [if_neg c5] at H
   have c5b0 : (t103 == 0) = false := beq_eq_false_iff_ne.mpr c5
   have c5b1 : (t103 != 0) = true := bne_iff_ne.mpr c5
   simp only [Option.some.injEq, Prod.mk.injEq] at H
   obtain ⟨rfl, rfl⟩ := H
   go_enter Tryd.func16, Tryd.ntmps16
   go_wp2_with (first | ((with_reducible refine gate_dst (N := 1) rfl ?_); refine box_event ?hg (N := 1) ?hd (cs := #[.string a0_0, .slice A0_1 l0_1.length c0_1, .slice A0_2 l0_2.length c0_2, .slice A0_3 l0_3.length c0_3, .slice A0_4 l0_4.length c0_4, .slice A0_5 l0_5.length c0_5]) (t := 26) ?hr ?_; (case hd => rfl); (case hg => rfl); (case hr => first | (go_simp; done) | (go_simp; rfl)); intro gb101 hg w25 hbox hb; have n0_ := Aside0.mk (below_step (tg HB.out) hb); have n1_ := Aside0.mk (hbox); have n2_ := Aside0.mk ((by rw [hg]; exact (below_size (tg HB.out)) : w.heap.size ≤ gb101)); have n3_ := Aside0.mk ((by rw [hg]; exact (below_size (tg HB.out)) : w.heap.size ≤ gb101)); clear HB; have HB := n0_; have BK101 := n1_; have GW101 := n2_; have GE101 := n3_; clear n0_ n1_ n2_ n3_; clear hb hbox hg; have hcz26_0 := cz BK101.out 0 (.string a0_0); have hcz26_1 := cz BK101.out 1 (.slice A0_1 l0_1.length c0_1); have hcz26_2 := cz BK101.out 2 (.slice A0_2 l0_2.length c0_2); have hcz26_3 := cz BK101.out 3 (.slice A0_3 l0_3.length c0_3); have hcz26_4 := cz BK101.out 4 (.slice A0_4 l0_4.length c0_4); have hcz26_5 := cz BK101.out 5 (.slice A0_5 l0_5.length c0_5); have hfz26_0 := blk_frozen BK101.out 0; have hfz26_1 := blk_frozen BK101.out 1; have hfz26_2 := blk_frozen BK101.out 2; have hfz26_3 := blk_frozen BK101.out 3; have hfz26_4 := blk_frozen BK101.out 4; have hfz26_5 := blk_frozen BK101.out 5) | ((with_reducible refine gate_callee (f := 37) rfl ?_); refine goesL_ (some 9) rfl rfl Tryd.func37 (by kernel_rfl) rfl #[.agg #[.string a0_0, .slice A0_1 l0_1.length c0_1, .slice A0_2 l0_2.length c0_2, .slice A0_3 l0_3.length c0_3, .slice A0_4 l0_4.length c0_4, .slice A0_5 l0_5.length c0_5]] rfl tm ?_; (with_reducible refine (object_Check.calls k a0_0 _ _ l0_1 _ _ l0_2 _ _ l0_3 _ _ l0_4 _ _ l0_5 t102 _ ?side1 ?side2 ?side3 ?side4 ?side5 ?side6 ?side7 ?side8 ?side9 ?side10 A2.out).mono ?_); (case side1 => exact tc (Kd.C_below HR0_1.out HB.out)); (case side2 => exact HC0_1.out); (case side3 => exact tc (Kd.C_below HR0_2.out HB.out)); (case side4 => exact HC0_2.out); (case side5 => exact tc (Kd.C_below HR0_3.out HB.out)); (case side6 => exact HC0_3.out); (case side7 => exact tc (Kd.C_below HR0_4.out HB.out)); (case side8 => exact HC0_4.out); (case side9 => exact tc (Kd.C_below HR0_5.out HB.out)); (case side10 => exact HC0_5.out); rintro e w27 ⟨rfl, hb⟩; refine ⟨_, rfl, ?_⟩; replace BK101 := ba BK101.out hb; replace HB := Aside0.mk (below_step (tg1 HB.out GE101.out) hb); (try clear hb); (try clear hb2); (try clear hk); (try clear hi); have hcz28_0 := cz BK101.out 0 (.string a0_0); have hcz28_1 := cz BK101.out 1 (.slice A0_1 l0_1.length c0_1); have hcz28_2 := cz BK101.out 2 (.slice A0_2 l0_2.length c0_2); have hcz28_3 := cz BK101.out 3 (.slice A0_3 l0_3.length c0_3); have hcz28_4 := cz BK101.out 4 (.slice A0_4 l0_4.length c0_4); have hcz28_5 := cz BK101.out 5 (.slice A0_5 l0_5.length c0_5); have hfz28_0 := blk_frozen BK101.out 0; have hfz28_1 := blk_frozen BK101.out 1; have hfz28_2 := blk_frozen BK101.out 2; have hfz28_3 := blk_frozen BK101.out 3; have hfz28_4 := blk_frozen BK101.out 4; have hfz28_5 := blk_frozen BK101.out 5) | ((with_reducible refine gate_callee (f := 38) rfl ?_); refine goesL_ (some 13) rfl rfl Tryd.func38 (by kernel_rfl) rfl #[.agg #[.string a0_0, .slice A0_1 l0_1.length c0_1, .slice A0_2 l0_2.length c0_2, .slice A0_3 l0_3.length c0_3, .slice A0_4 l0_4.length c0_4, .slice A0_5 l0_5.length c0_5]] rfl tm ?_; (with_reducible refine (valid_texts.calls k a0_0 _ _ l0_1 _ _ l0_2 _ _ l0_3 _ _ l0_4 _ _ l0_5 t103 t104 _ ?side11 ?side1 ?side2 ?side3 ?side4 ?side5 ?side6 ?side7 ?side8 ?side9 ?side10 A4.out).mono ?_); (case side1 => exact tc (Kd.C_below HR0_1.out HB.out)); (case side2 => exact HC0_1.out); (case side3 => exact tc (Kd.C_below HR0_2.out HB.out)); (case side4 => exact HC0_2.out); (case side5 => exact tc (Kd.C_below HR0_3.out HB.out)); (case side6 => exact HC0_3.out); (case side7 => exact tc (Kd.C_below HR0_4.out HB.out)); (case side8 => exact HC0_4.out); (case side9 => exact tc (Kd.C_below HR0_5.out HB.out)); (case side10 => exact HC0_5.out); (case side11 => first | exact HG.out | exact Glob.below HG.out (tg1 HB.out GE101.out)); rintro e w29 ⟨rfl, hb⟩; refine ⟨_, rfl, ?_⟩; replace BK101 := ba BK101.out hb; replace HB := Aside0.mk (below_step (tg1 HB.out GE101.out) hb); (try clear hb); (try clear hb2); (try clear hk); (try clear hi)))
   go_ret2
   exact ⟨by first | rfl | (simp [errW_none, errW_some] <;> rfl) | (simp [*, errW_none, errW_some] <;> rfl), tg1 HB.out GE101.out⟩
 ·rw [if_neg c3] at H
  have c3b0 : (t102 == 0) = false := beq_eq_false_iff_ne.mpr c3
  have c3b1 : (t102 != 0) = true := bne_iff_ne.mpr c3
  simp only [Option.some.injEq, Prod.mk.injEq] at H
  obtain ⟨rfl, rfl⟩ := H
  go_enter Tryd.func16, Tryd.ntmps16
  go_wp2_with (first | ((with_reducible refine gate_dst (N := 1) rfl ?_); refine box_event ?hg (N := 1) ?hd (cs := #[.string a0_0, .slice A0_1 l0_1.length c0_1, .slice A0_2 l0_2.length c0_2, .slice A0_3 l0_3.length c0_3, .slice A0_4 l0_4.length c0_4, .slice A0_5 l0_5.length c0_5]) (t := 26) ?hr ?_; (case hd => rfl); (case hg => rfl); (case hr => first | (go_simp; done) | (go_simp; rfl)); intro gb101 hg w30 hbox hb; have n0_ := Aside0.mk (below_step (tg HB.out) hb); have n1_ := Aside0.mk (hbox); have n2_ := Aside0.mk ((by rw [hg]; exact (below_size (tg HB.out)) : w.heap.size ≤ gb101)); have n3_ := Aside0.mk ((by rw [hg]; exact (below_size (tg HB.out)) : w.heap.size ≤ gb101)); clear HB; have HB := n0_; have BK101 := n1_; have GW101 := n2_; have GE101 := n3_; clear n0_ n1_ n2_ n3_; clear hb hbox hg; have hcz31_0 := cz BK101.out 0 (.string a0_0); have hcz31_1 := cz BK101.out 1 (.slice A0_1 l0_1.length c0_1); have hcz31_2 := cz BK101.out 2 (.slice A0_2 l0_2.length c0_2); have hcz31_3 := cz BK101.out 3 (.slice A0_3 l0_3.length c0_3); have hcz31_4 := cz BK101.out 4 (.slice A0_4 l0_4.length c0_4); have hcz31_5 := cz BK101.out 5 (.slice A0_5 l0_5.length c0_5); have hfz31_0 := blk_frozen BK101.out 0; have hfz31_1 := blk_frozen BK101.out 1; have hfz31_2 := blk_frozen BK101.out 2; have hfz31_3 := blk_frozen BK101.out 3; have hfz31_4 := blk_frozen BK101.out 4; have hfz31_5 := blk_frozen BK101.out 5) | ((with_reducible refine gate_callee (f := 37) rfl ?_); refine goesL_ (some 9) rfl rfl Tryd.func37 (by kernel_rfl) rfl #[.agg #[.string a0_0, .slice A0_1 l0_1.length c0_1, .slice A0_2 l0_2.length c0_2, .slice A0_3 l0_3.length c0_3, .slice A0_4 l0_4.length c0_4, .slice A0_5 l0_5.length c0_5]] rfl tm ?_; (with_reducible refine (object_Check.calls k a0_0 _ _ l0_1 _ _ l0_2 _ _ l0_3 _ _ l0_4 _ _ l0_5 t102 _ ?side1 ?side2 ?side3 ?side4 ?side5 ?side6 ?side7 ?side8 ?side9 ?side10 A2.out).mono ?_); (case side1 => exact tc (Kd.C_below HR0_1.out HB.out)); (case side2 => exact HC0_1.out); (case side3 => exact tc (Kd.C_below HR0_2.out HB.out)); (case side4 => exact HC0_2.out); (case side5 => exact tc (Kd.C_below HR0_3.out HB.out)); (case side6 => exact HC0_3.out); (case side7 => exact tc (Kd.C_below HR0_4.out HB.out)); (case side8 => exact HC0_4.out); (case side9 => exact tc (Kd.C_below HR0_5.out HB.out)); (case side10 => exact HC0_5.out); rintro e w32 ⟨rfl, hb⟩; refine ⟨_, rfl, ?_⟩; replace BK101 := ba BK101.out hb; replace HB := Aside0.mk (below_step (tg1 HB.out GE101.out) hb); (try clear hb); (try clear hb2); (try clear hk); (try clear hi)))
  go_ret2
  exact ⟨by first | rfl | (simp [errW_none, errW_some] <;> rfl) | (simp [*, errW_none, errW_some] <;> rfl), tg1 HB.out GE101.out⟩

end Go.Proofs.YtiphindialkmnaaDoor.X
end
section
namespace Go.Proofs.YtiphindialkmnaaDoor.X
open Go.RowKit Go.Proofs.YtiphindialkmnaaDoorW.PrintWords Go.Proofs.YtiphindialkmnaaDoorW.PrintLast Go.Proofs.YtiphindialkmnaaDoorW.PrintMore
attribute [local go_sem] max2_int min2_int max_two min_two max_three min_three max_four min_four
set_option linter.unusedVariables false
set_option linter.unusedSimpArgs false

/-! ### valid_Check: function 18 -/
def valid_Check.f (k : Nat) (a0_0 : ByteArray) (l0_1 : List ByteArray) (l0_2 : List ByteArray) (l0_3 : List Int) (l0_4 : List Int) (l0_5 : List (S43)) : Option (Int) := (valid_Module.f k a0_0 l0_1 l0_2 l0_3 l0_4 l0_5).bind fun bt102 => (if bt102.1 = 0 then (some 0) else (some 20))
theorem valid_Check.mono : ∀ a0 a1 a2 a3 a4 a5 k, LeO (valid_Check.f k a0 a1 a2 a3 a4 a5) (valid_Check.f (k + 1) a0 a1 a2 a3 a4 a5) := by
 intro a0 a1 a2 a3 a4 a5 k
 unfold valid_Check.f
 repeat' first
   | (with_reducible exact valid_Module.mono _ _ _ _ _ _ _)
   | (with_reducible exact LeO.refl _)
   | (with_reducible exact LeO.none _)
   | (with_reducible refine LeO.ite ?_ ?_)
   | (with_reducible refine LeO.bind ?_ (fun _ => ?_))
   | exact valid_Module.mono _ _ _ _ _ _ _
   | exact LeO.none _
   | refine LeO.ite ?_ ?_
   | refine LeO.bind ?_ (fun _ => ?_)
set_option maxHeartbeats 8000000 in
set_option maxRecDepth 100000 in
theorem valid_Check.calls (k : Nat) (a0_0 : ByteArray) (A0_1 : Option Addr) (c0_1 : Nat) (l0_1 : List ByteArray) (A0_2 : Option Addr) (c0_2 : Nat) (l0_2 : List ByteArray) (A0_3 : Option Addr) (c0_3 : Nat) (l0_3 : List Int) (A0_4 : Option Addr) (c0_4 : Nat) (l0_4 : List Int) (A0_5 : Option Addr) (c0_5 : Nat) (l0_5 : List (S43)) (r : Int) (w : World) (hG : Glob w) (hr0_1 : Kd.C Kd.string w A0_1 l0_1.length l0_1) (hc0_1 : l0_1.length ≤ c0_1) (hr0_2 : Kd.C Kd.string w A0_2 l0_2.length l0_2) (hc0_2 : l0_2.length ≤ c0_2) (hr0_3 : Kd.C (Kd.int .u32) w A0_3 l0_3.length l0_3) (hc0_3 : l0_3.length ≤ c0_3) (hr0_4 : Kd.C (Kd.int .u32) w A0_4 l0_4.length l0_4) (hc0_4 : l0_4.length ≤ c0_4) (hr0_5 : Kd.C k43 w A0_5 l0_5.length l0_5) (hc0_5 : l0_5.length ≤ c0_5) (h : valid_Check.f k a0_0 l0_1 l0_2 l0_3 l0_4 l0_5 = some r) :
  Calls Tryd.prog 18 #[.agg #[.string a0_0, .slice A0_1 l0_1.length c0_1, .slice A0_2 l0_2.length c0_2, .slice A0_3 l0_3.length c0_3, .slice A0_4 l0_4.length c0_4, .slice A0_5 l0_5.length c0_5]] w fun e w' => e = .returned (.int .i64 r) ∧ Below w.heap.size w w' := by
 have hu26 := Tryd.underlying26
 have HR0_1 := Aside0.mk hr0_1
 have HC0_1 := Aside0.mk hc0_1
 clear hr0_1 hc0_1
 have HR0_2 := Aside0.mk hr0_2
 have HC0_2 := Aside0.mk hc0_2
 clear hr0_2 hc0_2
 have HR0_3 := Aside0.mk hr0_3
 have HC0_3 := Aside0.mk hc0_3
 clear hr0_3 hc0_3
 have HR0_4 := Aside0.mk hr0_4
 have HC0_4 := Aside0.mk hc0_4
 clear hr0_4 hc0_4
 have HR0_5 := Aside0.mk hr0_5
 have HC0_5 := Aside0.mk hc0_5
 clear hr0_5 hc0_5
 have HG := Aside0.mk hG
 clear hG
 have HB := Aside0.mk (Below.refl w.heap.size w)
 have H : ((valid_Module.f k a0_0 l0_1 l0_2 l0_3 l0_4 l0_5).bind fun bt102 => (if bt102.1 = 0 then (some 0) else (some 20))) = some r := h
 clear h
 replace H := Option.bind_eq_some_iff.mp H
 obtain ⟨⟨t102, t103⟩, A20, H⟩ := H
 replace H : (if t102 = 0 then (some 0) else (some 20)) = some r := H
 have A2 := Aside0.mk A20
 clear A20
 by_cases c3 : t102 = 0
 ·rw [if_pos c3] at H
  have c3b0 : (t102 == 0) = true := beq_iff_eq.mpr c3
  have c3b1 : (t102 != 0) = false := bne_eq_false_iff_eq.mpr c3
  clear c3
  obtain rfl := Option.some.inj H
  go_enter Tryd.func18, Tryd.ntmps18
  go_wp2_with (first | ((with_reducible refine gate_dst (N := 1) rfl ?_); refine box_event ?hg (N := 1) ?hd (cs := #[.string a0_0, .slice A0_1 l0_1.length c0_1, .slice A0_2 l0_2.length c0_2, .slice A0_3 l0_3.length c0_3, .slice A0_4 l0_4.length c0_4, .slice A0_5 l0_5.length c0_5]) (t := 26) ?hr ?_; (case hd => rfl); (case hg => rfl); (case hr => first | (go_simp; done) | (go_simp; rfl)); intro gb101 hg w4 hbox hb; have n0_ := Aside0.mk (below_step (tg HB.out) hb); have n1_ := Aside0.mk (hbox); have n2_ := Aside0.mk ((by rw [hg]; exact (below_size (tg HB.out)) : w.heap.size ≤ gb101)); have n3_ := Aside0.mk ((by rw [hg]; exact (below_size (tg HB.out)) : w.heap.size ≤ gb101)); clear HB; have HB := n0_; have BK101 := n1_; have GW101 := n2_; have GE101 := n3_; clear n0_ n1_ n2_ n3_; clear hb hbox hg; have hcz5_0 := cz BK101.out 0 (.string a0_0); have hcz5_1 := cz BK101.out 1 (.slice A0_1 l0_1.length c0_1); have hcz5_2 := cz BK101.out 2 (.slice A0_2 l0_2.length c0_2); have hcz5_3 := cz BK101.out 3 (.slice A0_3 l0_3.length c0_3); have hcz5_4 := cz BK101.out 4 (.slice A0_4 l0_4.length c0_4); have hcz5_5 := cz BK101.out 5 (.slice A0_5 l0_5.length c0_5); have hfz5_0 := blk_frozen BK101.out 0; have hfz5_1 := blk_frozen BK101.out 1; have hfz5_2 := blk_frozen BK101.out 2; have hfz5_3 := blk_frozen BK101.out 3; have hfz5_4 := blk_frozen BK101.out 4; have hfz5_5 := blk_frozen BK101.out 5) | ((with_reducible refine gate_callee (f := 16) rfl ?_); refine goesL_ (some 7) rfl rfl Tryd.func16 (by kernel_rfl) rfl #[.agg #[.string a0_0, .slice A0_1 l0_1.length c0_1, .slice A0_2 l0_2.length c0_2, .slice A0_3 l0_3.length c0_3, .slice A0_4 l0_4.length c0_4, .slice A0_5 l0_5.length c0_5]] rfl tm ?_; (with_reducible refine (valid_Module.calls k a0_0 _ _ l0_1 _ _ l0_2 _ _ l0_3 _ _ l0_4 _ _ l0_5 t102 t103 _ ?side11 ?side1 ?side2 ?side3 ?side4 ?side5 ?side6 ?side7 ?side8 ?side9 ?side10 A2.out).mono ?_); (case side1 => exact tc (Kd.C_below HR0_1.out HB.out)); (case side2 => exact HC0_1.out); (case side3 => exact tc (Kd.C_below HR0_2.out HB.out)); (case side4 => exact HC0_2.out); (case side5 => exact tc (Kd.C_below HR0_3.out HB.out)); (case side6 => exact HC0_3.out); (case side7 => exact tc (Kd.C_below HR0_4.out HB.out)); (case side8 => exact HC0_4.out); (case side9 => exact tc (Kd.C_below HR0_5.out HB.out)); (case side10 => exact HC0_5.out); (case side11 => first | exact HG.out | exact Glob.below HG.out (tg1 HB.out GE101.out)); rintro e w6 ⟨rfl, hb⟩; refine ⟨_, rfl, ?_⟩; replace BK101 := ba BK101.out hb; replace HB := Aside0.mk (below_step (tg1 HB.out GE101.out) hb); (try clear hb); (try clear hb2); (try clear hk); (try clear hi)))
  go_ret
  exact ⟨by first | rfl | (simp [errW_none, errW_some] <;> rfl) | (simp [*, errW_none, errW_some] <;> rfl), tg1 HB.out GE101.out⟩
 ·rw [if_neg c3] at H
  have c3b0 : (t102 == 0) = false := beq_eq_false_iff_ne.mpr c3
  have c3b1 : (t102 != 0) = true := bne_iff_ne.mpr c3
  obtain rfl := Option.some.inj H
  go_enter Tryd.func18, Tryd.ntmps18
  go_wp2_with (first | ((with_reducible refine gate_dst (N := 1) rfl ?_); refine box_event ?hg (N := 1) ?hd (cs := #[.string a0_0, .slice A0_1 l0_1.length c0_1, .slice A0_2 l0_2.length c0_2, .slice A0_3 l0_3.length c0_3, .slice A0_4 l0_4.length c0_4, .slice A0_5 l0_5.length c0_5]) (t := 26) ?hr ?_; (case hd => rfl); (case hg => rfl); (case hr => first | (go_simp; done) | (go_simp; rfl)); intro gb101 hg w7 hbox hb; have n0_ := Aside0.mk (below_step (tg HB.out) hb); have n1_ := Aside0.mk (hbox); have n2_ := Aside0.mk ((by rw [hg]; exact (below_size (tg HB.out)) : w.heap.size ≤ gb101)); have n3_ := Aside0.mk ((by rw [hg]; exact (below_size (tg HB.out)) : w.heap.size ≤ gb101)); clear HB; have HB := n0_; have BK101 := n1_; have GW101 := n2_; have GE101 := n3_; clear n0_ n1_ n2_ n3_; clear hb hbox hg; have hcz8_0 := cz BK101.out 0 (.string a0_0); have hcz8_1 := cz BK101.out 1 (.slice A0_1 l0_1.length c0_1); have hcz8_2 := cz BK101.out 2 (.slice A0_2 l0_2.length c0_2); have hcz8_3 := cz BK101.out 3 (.slice A0_3 l0_3.length c0_3); have hcz8_4 := cz BK101.out 4 (.slice A0_4 l0_4.length c0_4); have hcz8_5 := cz BK101.out 5 (.slice A0_5 l0_5.length c0_5); have hfz8_0 := blk_frozen BK101.out 0; have hfz8_1 := blk_frozen BK101.out 1; have hfz8_2 := blk_frozen BK101.out 2; have hfz8_3 := blk_frozen BK101.out 3; have hfz8_4 := blk_frozen BK101.out 4; have hfz8_5 := blk_frozen BK101.out 5) | ((with_reducible refine gate_callee (f := 16) rfl ?_); refine goesL_ (some 7) rfl rfl Tryd.func16 (by kernel_rfl) rfl #[.agg #[.string a0_0, .slice A0_1 l0_1.length c0_1, .slice A0_2 l0_2.length c0_2, .slice A0_3 l0_3.length c0_3, .slice A0_4 l0_4.length c0_4, .slice A0_5 l0_5.length c0_5]] rfl tm ?_; (with_reducible refine (valid_Module.calls k a0_0 _ _ l0_1 _ _ l0_2 _ _ l0_3 _ _ l0_4 _ _ l0_5 t102 t103 _ ?side11 ?side1 ?side2 ?side3 ?side4 ?side5 ?side6 ?side7 ?side8 ?side9 ?side10 A2.out).mono ?_); (case side1 => exact tc (Kd.C_below HR0_1.out HB.out)); (case side2 => exact HC0_1.out); (case side3 => exact tc (Kd.C_below HR0_2.out HB.out)); (case side4 => exact HC0_2.out); (case side5 => exact tc (Kd.C_below HR0_3.out HB.out)); (case side6 => exact HC0_3.out); (case side7 => exact tc (Kd.C_below HR0_4.out HB.out)); (case side8 => exact HC0_4.out); (case side9 => exact tc (Kd.C_below HR0_5.out HB.out)); (case side10 => exact HC0_5.out); (case side11 => first | exact HG.out | exact Glob.below HG.out (tg1 HB.out GE101.out)); rintro e w9 ⟨rfl, hb⟩; refine ⟨_, rfl, ?_⟩; replace BK101 := ba BK101.out hb; replace HB := Aside0.mk (below_step (tg1 HB.out GE101.out) hb); (try clear hb); (try clear hb2); (try clear hk); (try clear hi)))
  go_ret
  exact ⟨by first | rfl | (simp [errW_none, errW_some] <;> rfl) | (simp [*, errW_none, errW_some] <;> rfl), tg1 HB.out GE101.out⟩

end Go.Proofs.YtiphindialkmnaaDoor.X
end
section
namespace Go.Proofs.YtiphindialkmnaaDoor.X
open Go.RowKit Go.Proofs.YtiphindialkmnaaDoorW.PrintWords Go.Proofs.YtiphindialkmnaaDoorW.PrintLast Go.Proofs.YtiphindialkmnaaDoorW.PrintMore
attribute [local go_sem] max2_int min2_int max_two min_two max_three min_three max_four min_four
set_option linter.unusedVariables false
set_option linter.unusedSimpArgs false

/-! ### budwoodlaw11_awake: function 14 -/
def budwoodlaw11_awake.f (k : Nat)  : Option (Bool) := (valid_Module.f k (⟨#[109]⟩ : ByteArray) ([] : List ByteArray) ([] : List ByteArray) (([0] : List Int)) ([] : List Int) ([] : List (S43))).bind fun bt104 => ((valid_Module.f k (⟨#[109]⟩ : ByteArray) ([] : List ByteArray) ([] : List ByteArray) ([] : List Int) ([] : List Int) ([] : List (S43))).bind fun bt106 => ((valid_Module.f k (⟨#[109]⟩ : ByteArray) ([] : List ByteArray) ([] : List ByteArray) (([0, 2281701381] : List Int)) ([] : List Int) ([] : List (S43))).bind fun bt111 => (if bt104.1 = 0 then (if bt104.2 = 0 then (if bt106.1 = 4 then (if bt111.1 = 9 then (if bt111.2 = 1 then ((valid_Check.f k (⟨#[]⟩ : ByteArray) ([] : List ByteArray) ([] : List ByteArray) ([] : List Int) ([] : List Int) ([] : List (S43))).bind fun t113 => (if t113 = 20 then (some true) else (some false))) else (some false)) else (some false)) else (some false)) else (some false)) else (some false))))
theorem budwoodlaw11_awake.mono : ∀ k, LeO (budwoodlaw11_awake.f k ) (budwoodlaw11_awake.f (k + 1) ) := by
 intro  k
 unfold budwoodlaw11_awake.f
 repeat' first
   | (with_reducible exact valid_Check.mono _ _ _ _ _ _ _)
   | (with_reducible exact valid_Module.mono _ _ _ _ _ _ _)
   | (with_reducible exact LeO.refl _)
   | (with_reducible exact LeO.none _)
   | (with_reducible refine LeO.ite ?_ ?_)
   | (with_reducible refine LeO.bind ?_ (fun _ => ?_))
   | exact valid_Check.mono _ _ _ _ _ _ _
   | exact valid_Module.mono _ _ _ _ _ _ _
   | exact LeO.none _
   | refine LeO.ite ?_ ?_
   | refine LeO.bind ?_ (fun _ => ?_)
set_option maxHeartbeats 8000000 in
set_option maxRecDepth 100000 in
theorem budwoodlaw11_awake.calls (k : Nat)  (r : Bool) (w : World) (hG : Glob w) (h : budwoodlaw11_awake.f k  = some r) :
  Calls Tryd.prog 14 #[] w fun e w' => e = .returned (.bool r) ∧ Below w.heap.size w w' := by
 have hu26 := Tryd.underlying26
 have HG := Aside0.mk hG
 clear hG
 have HB := Aside0.mk (Below.refl w.heap.size w)
 have H : ((valid_Module.f k (⟨#[109]⟩ : ByteArray) ([] : List ByteArray) ([] : List ByteArray) (([0] : List Int)) ([] : List Int) ([] : List (S43))).bind fun bt104 => ((valid_Module.f k (⟨#[109]⟩ : ByteArray) ([] : List ByteArray) ([] : List ByteArray) ([] : List Int) ([] : List Int) ([] : List (S43))).bind fun bt106 => ((valid_Module.f k (⟨#[109]⟩ : ByteArray) ([] : List ByteArray) ([] : List ByteArray) (([0, 2281701381] : List Int)) ([] : List Int) ([] : List (S43))).bind fun bt111 => (if bt104.1 = 0 then (if bt104.2 = 0 then (if bt106.1 = 4 then (if bt111.1 = 9 then (if bt111.2 = 1 then ((valid_Check.f k (⟨#[]⟩ : ByteArray) ([] : List ByteArray) ([] : List ByteArray) ([] : List Int) ([] : List Int) ([] : List (S43))).bind fun t113 => (if t113 = 20 then (some true) else (some false))) else (some false)) else (some false)) else (some false)) else (some false)) else (some false))))) = some r := h
 clear h
 obtain ⟨y101, hy101⟩ : ∃ y_ : List Int, y_ = (([0] : List Int)) := ⟨_, rfl⟩
 replace H : ((valid_Module.f k (⟨#[109]⟩ : ByteArray) ([] : List ByteArray) ([] : List ByteArray) y101 ([] : List Int) ([] : List (S43))).bind fun bt104 => ((valid_Module.f k (⟨#[109]⟩ : ByteArray) ([] : List ByteArray) ([] : List ByteArray) ([] : List Int) ([] : List Int) ([] : List (S43))).bind fun bt106 => ((valid_Module.f k (⟨#[109]⟩ : ByteArray) ([] : List ByteArray) ([] : List ByteArray) (([0, 2281701381] : List Int)) ([] : List Int) ([] : List (S43))).bind fun bt111 => (if bt104.1 = 0 then (if bt104.2 = 0 then (if bt106.1 = 4 then (if bt111.1 = 9 then (if bt111.2 = 1 then ((valid_Check.f k (⟨#[]⟩ : ByteArray) ([] : List ByteArray) ([] : List ByteArray) ([] : List Int) ([] : List Int) ([] : List (S43))).bind fun t113 => (if t113 = 20 then (some true) else (some false))) else (some false)) else (some false)) else (some false)) else (some false)) else (some false))))) = some r := by first | (rw [hy101]; with_reducible exact H) | (have H2_ := (Option.bind_some _ _).symm.trans H; rw [hy101]; with_reducible exact H2_) | (have H2_ := (Option.bind_some _ _).symm.trans H; with_reducible exact H2_) | with_reducible exact H | (rw [hy101]; exact H) | exact H
 have Ny101 := Aside0.mk hy101
 clear hy101
 replace H := Option.bind_eq_some_iff.mp H
 obtain ⟨⟨t104, t105⟩, A10, H⟩ := H
 replace H : ((valid_Module.f k (⟨#[109]⟩ : ByteArray) ([] : List ByteArray) ([] : List ByteArray) ([] : List Int) ([] : List Int) ([] : List (S43))).bind fun bt106 => ((valid_Module.f k (⟨#[109]⟩ : ByteArray) ([] : List ByteArray) ([] : List ByteArray) (([0, 2281701381] : List Int)) ([] : List Int) ([] : List (S43))).bind fun bt111 => (if t104 = 0 then (if t105 = 0 then (if bt106.1 = 4 then (if bt111.1 = 9 then (if bt111.2 = 1 then ((valid_Check.f k (⟨#[]⟩ : ByteArray) ([] : List ByteArray) ([] : List ByteArray) ([] : List Int) ([] : List Int) ([] : List (S43))).bind fun t113 => (if t113 = 20 then (some true) else (some false))) else (some false)) else (some false)) else (some false)) else (some false)) else (some false)))) = some r := H
 have A1 := Aside0.mk A10
 clear A10
 replace H := Option.bind_eq_some_iff.mp H
 obtain ⟨⟨t106, t107⟩, A20, H⟩ := H
 replace H : ((valid_Module.f k (⟨#[109]⟩ : ByteArray) ([] : List ByteArray) ([] : List ByteArray) (([0, 2281701381] : List Int)) ([] : List Int) ([] : List (S43))).bind fun bt111 => (if t104 = 0 then (if t105 = 0 then (if t106 = 4 then (if bt111.1 = 9 then (if bt111.2 = 1 then ((valid_Check.f k (⟨#[]⟩ : ByteArray) ([] : List ByteArray) ([] : List ByteArray) ([] : List Int) ([] : List Int) ([] : List (S43))).bind fun t113 => (if t113 = 20 then (some true) else (some false))) else (some false)) else (some false)) else (some false)) else (some false)) else (some false))) = some r := H
 have A2 := Aside0.mk A20
 clear A20
 obtain ⟨y108, hy108⟩ : ∃ y_ : List Int, y_ = (([0, 2281701381] : List Int)) := ⟨_, rfl⟩
 replace H : ((valid_Module.f k (⟨#[109]⟩ : ByteArray) ([] : List ByteArray) ([] : List ByteArray) y108 ([] : List Int) ([] : List (S43))).bind fun bt111 => (if t104 = 0 then (if t105 = 0 then (if t106 = 4 then (if bt111.1 = 9 then (if bt111.2 = 1 then ((valid_Check.f k (⟨#[]⟩ : ByteArray) ([] : List ByteArray) ([] : List ByteArray) ([] : List Int) ([] : List Int) ([] : List (S43))).bind fun t113 => (if t113 = 20 then (some true) else (some false))) else (some false)) else (some false)) else (some false)) else (some false)) else (some false))) = some r := by first | (rw [hy108]; with_reducible exact H) | (have H2_ := (Option.bind_some _ _).symm.trans H; rw [hy108]; with_reducible exact H2_) | (have H2_ := (Option.bind_some _ _).symm.trans H; with_reducible exact H2_) | with_reducible exact H | (rw [hy108]; exact H) | exact H
 have Ny108 := Aside0.mk hy108
 clear hy108
 replace H := Option.bind_eq_some_iff.mp H
 obtain ⟨⟨t111, t112⟩, A30, H⟩ := H
 replace H : (if t104 = 0 then (if t105 = 0 then (if t106 = 4 then (if t111 = 9 then (if t112 = 1 then ((valid_Check.f k (⟨#[]⟩ : ByteArray) ([] : List ByteArray) ([] : List ByteArray) ([] : List Int) ([] : List Int) ([] : List (S43))).bind fun t113 => (if t113 = 20 then (some true) else (some false))) else (some false)) else (some false)) else (some false)) else (some false)) else (some false)) = some r := H
 have A3 := Aside0.mk A30
 clear A30
 by_cases c4 : t104 = 0
 ·rw [if_pos c4] at H
  have c4b0 : (t104 == 0) = true := beq_iff_eq.mpr c4
  have c4b1 : (t104 != 0) = false := bne_eq_false_iff_eq.mpr c4
  clear c4
  by_cases c5 : t105 = 0
  ·rw [if_pos c5] at H
   have c5b0 : (t105 == 0) = true := beq_iff_eq.mpr c5
   have c5b1 : (t105 != 0) = false := bne_eq_false_iff_eq.mpr c5
   clear c5
   by_cases c6 : t106 = 4
   ·rw [if_pos c6] at H
    have c6b0 : (t106 == 4) = true := beq_iff_eq.mpr c6
    have c6b1 : (t106 != 4) = false := bne_eq_false_iff_eq.mpr c6
    clear c6
    by_cases c7 : t111 = 9
    ·rw [if_pos c7] at H
     have c7b0 : (t111 == 9) = true := beq_iff_eq.mpr c7
     have c7b1 : (t111 != 9) = false := bne_eq_false_iff_eq.mpr c7
     clear c7
     by_cases c8 : t112 = 1
     ·rw [if_pos c8] at H
      have c8b0 : (t112 == 1) = true := beq_iff_eq.mpr c8
      have c8b1 : (t112 != 1) = false := bne_eq_false_iff_eq.mpr c8
      clear c8
      replace H := Option.bind_eq_some_iff.mp H
      obtain ⟨t113, A90, H⟩ := H
      replace H : (if t113 = 20 then (some true) else (some false)) = some r := H
      have A9 := Aside0.mk A90
      clear A90
      by_cases c10 : t113 = 20
      ·rw [if_pos c10] at H
       have c10b0 : (t113 == 20) = true := beq_iff_eq.mpr c10
       have c10b1 : (t113 != 20) = false := bne_eq_false_iff_eq.mpr c10
       clear c10
       obtain rfl := Option.some.inj H
       go_enter Tryd.func14, Tryd.ntmps14
       go_wp2_with (first | ((with_reducible refine gate_dst (N := 8) rfl ?_); refine Kd.R_lit (Kd.int .u32) _ 44 ?hg (N := 8) ?hd (xs := ([0] : List Int)) (inner := [.int .u32 0]) (ok := fun _ => True) (okp := fun _ => True) ?hr ?hp (fun _ hk => hk) trivial (Below.refl _ _) (Nat.le_refl _) (by simp) ?_; (case hd => rfl); (case hg => rfl); (case hr => first | (go_simp; done) | (go_simp; rfl)); (case hp => exact (Reps.one (show Kd.M (Kd.int .u32) _ _ _ 0 [.int .u32 0] from rfl) (Reps.none _ _))); intro v102 w11 ho12 hb hg_ hnew_; clear hg_ hnew_; (first | rw [← Ny101.out] at ho12 | (simp only [Int.reduceToNat] at ho12; rw [← Ny101.out] at ho12)); have HO103 := Aside0.mk (Kd.R_lower ho12 (below_size (tg HB.out))); replace HB := Aside0.mk (below_step (tg HB.out) hb); clear hb ho12; obtain ⟨Ao13, co13, eo13⟩ := Kd.R_slice HO103.out; subst eo13) | ((with_reducible refine gate_callee (f := 16) rfl ?_); refine goesL_ (some 10) rfl rfl Tryd.func16 (by kernel_rfl) rfl #[.agg #[.string (⟨#[109]⟩ : ByteArray), .slice none 0 0, .slice none 0 0, .slice Ao13 y101.length co13, .slice none 0 0, .slice none 0 0]] rfl tm ?_; (refine (valid_Module.calls k (⟨#[109]⟩ : ByteArray) _ _ ([] : List ByteArray) _ _ ([] : List ByteArray) _ _ y101 _ _ ([] : List Int) _ _ ([] : List (S43)) t104 t105 _ ?side11 ?side1 ?side2 ?side3 ?side4 ?side5 ?side6 ?side7 ?side8 ?side9 ?side10 A1.out).mono ?_); (case side1 => exact Kd.C_nil _ _); (case side2 => exact Nat.le_refl _); (case side3 => exact Kd.C_nil _ _); (case side4 => exact Nat.le_refl _); (case side5 => exact tr HO103.out); (case side6 => exact rl HO103.out); (case side7 => exact Kd.C_nil _ _); (case side8 => exact Nat.le_refl _); (case side9 => exact Kd.C_nil _ _); (case side10 => exact Nat.le_refl _); (case side11 => first | exact HG.out | exact Glob.below HG.out (tg HB.out)); rintro e w14 ⟨rfl, hb⟩; refine ⟨_, rfl, ?_⟩; replace HO103 := ra HO103.out hb; replace HB := Aside0.mk (below_step (tg HB.out) hb); (try clear hb); (try clear hb2); (try clear hk); (try clear hi)) | ((with_reducible refine gate_callee (f := 16) rfl ?_); refine goesL_ (some 15) rfl rfl Tryd.func16 (by kernel_rfl) rfl #[.agg #[.string (⟨#[109]⟩ : ByteArray), .slice none 0 0, .slice none 0 0, .slice none 0 0, .slice none 0 0, .slice none 0 0]] rfl tm ?_; (refine (valid_Module.calls k (⟨#[109]⟩ : ByteArray) _ _ ([] : List ByteArray) _ _ ([] : List ByteArray) _ _ ([] : List Int) _ _ ([] : List Int) _ _ ([] : List (S43)) t106 t107 _ ?side11 ?side1 ?side2 ?side3 ?side4 ?side5 ?side6 ?side7 ?side8 ?side9 ?side10 A2.out).mono ?_); (case side1 => exact Kd.C_nil _ _); (case side2 => exact Nat.le_refl _); (case side3 => exact Kd.C_nil _ _); (case side4 => exact Nat.le_refl _); (case side5 => exact Kd.C_nil _ _); (case side6 => exact Nat.le_refl _); (case side7 => exact Kd.C_nil _ _); (case side8 => exact Nat.le_refl _); (case side9 => exact Kd.C_nil _ _); (case side10 => exact Nat.le_refl _); (case side11 => first | exact HG.out | exact Glob.below HG.out (tg HB.out)); rintro e w15 ⟨rfl, hb⟩; refine ⟨_, rfl, ?_⟩; replace HO103 := ra HO103.out hb; replace HB := Aside0.mk (below_step (tg HB.out) hb); (try clear hb); (try clear hb2); (try clear hk); (try clear hi)) | ((with_reducible refine gate_dst (N := 19) rfl ?_); refine Kd.R_lit (Kd.int .u32) _ 44 ?hg (N := 19) ?hd (xs := ([0, 2281701381] : List Int)) (inner := [.int .u32 0, .int .u32 2281701381]) (ok := fun _ => True) (okp := fun _ => True) ?hr ?hp (fun _ hk => hk) trivial (Below.refl _ _) (Nat.le_refl _) (by simp) ?_; (case hd => rfl); (case hg => rfl); (case hr => first | (go_simp; done) | (go_simp; rfl)); (case hp => exact (Reps.one (show Kd.M (Kd.int .u32) _ _ _ 0 [.int .u32 0] from rfl) (Reps.one (show Kd.M (Kd.int .u32) _ _ _ 2281701381 [.int .u32 2281701381] from rfl) (Reps.none _ _)))); intro v109 w16 ho17 hb hg_ hnew_; clear hg_ hnew_; (first | rw [← Ny108.out] at ho17 | (simp only [Int.reduceToNat] at ho17; rw [← Ny108.out] at ho17)); have n0_ := Aside0.mk (Kd.R_elder' (tk HO103.out) (Kd.R_base ho17) hb); have n1_ := Aside0.mk (Kd.R_lower (Kd.R_new' ho17 (Kd.R_lt (tk HO103.out))) (below_size (tg HB.out))); have n2_ := Aside0.mk (below_step (tg HB.out) hb); clear HO103; clear HB; have HO103 := n0_; have HO110 := n1_; have HB := n2_; clear n0_ n1_ n2_; clear hb ho17; obtain ⟨Ao18, co18, eo18⟩ := Kd.R_slice HO110.out; subst eo18) | ((with_reducible refine gate_callee (f := 16) rfl ?_); refine goesL_ (some 21) rfl rfl Tryd.func16 (by kernel_rfl) rfl #[.agg #[.string (⟨#[109]⟩ : ByteArray), .slice none 0 0, .slice none 0 0, .slice Ao18 y108.length co18, .slice none 0 0, .slice none 0 0]] rfl tm ?_; (refine (valid_Module.calls k (⟨#[109]⟩ : ByteArray) _ _ ([] : List ByteArray) _ _ ([] : List ByteArray) _ _ y108 _ _ ([] : List Int) _ _ ([] : List (S43)) t111 t112 _ ?side11 ?side1 ?side2 ?side3 ?side4 ?side5 ?side6 ?side7 ?side8 ?side9 ?side10 A3.out).mono ?_); (case side1 => exact Kd.C_nil _ _); (case side2 => exact Nat.le_refl _); (case side3 => exact Kd.C_nil _ _); (case side4 => exact Nat.le_refl _); (case side5 => exact tr HO110.out); (case side6 => exact rl HO110.out); (case side7 => exact Kd.C_nil _ _); (case side8 => exact Nat.le_refl _); (case side9 => exact Kd.C_nil _ _); (case side10 => exact Nat.le_refl _); (case side11 => first | exact HG.out | exact Glob.below HG.out (tg HB.out)); rintro e w19 ⟨rfl, hb⟩; refine ⟨_, rfl, ?_⟩; replace HO103 := ra HO103.out hb; replace HO110 := ra HO110.out hb; replace HB := Aside0.mk (below_step (tg HB.out) hb); (try clear hb); (try clear hb2); (try clear hk); (try clear hi)) | (go_at_call 18; (refine (valid_Check.calls k (⟨#[]⟩ : ByteArray) _ _ ([] : List ByteArray) _ _ ([] : List ByteArray) _ _ ([] : List Int) _ _ ([] : List Int) _ _ ([] : List (S43)) t113 _ ?side11 ?side1 ?side2 ?side3 ?side4 ?side5 ?side6 ?side7 ?side8 ?side9 ?side10 A9.out).mono ?_); (case side1 => exact Kd.C_nil _ _); (case side2 => exact Nat.le_refl _); (case side3 => exact Kd.C_nil _ _); (case side4 => exact Nat.le_refl _); (case side5 => exact Kd.C_nil _ _); (case side6 => exact Nat.le_refl _); (case side7 => exact Kd.C_nil _ _); (case side8 => exact Nat.le_refl _); (case side9 => exact Kd.C_nil _ _); (case side10 => exact Nat.le_refl _); (case side11 => first | exact HG.out | exact Glob.below HG.out (tg HB.out)); rintro e w20 ⟨rfl, hb⟩; replace HO103 := ra HO103.out hb; replace HO110 := ra HO110.out hb; replace HB := Aside0.mk (below_step (tg HB.out) hb); (try clear hb); (try clear hb2); (try clear hk); (try clear hi)))
       go_ret
       exact ⟨by first | rfl | (simp [errW_none, errW_some] <;> rfl) | (simp [*, errW_none, errW_some] <;> rfl), tg HB.out⟩
      ·rw [if_neg c10] at H
       have c10b0 : (t113 == 20) = false := beq_eq_false_iff_ne.mpr c10
       have c10b1 : (t113 != 20) = true := bne_iff_ne.mpr c10
       obtain rfl := Option.some.inj H
       go_enter Tryd.func14, Tryd.ntmps14
       go_wp2_with (first | ((with_reducible refine gate_dst (N := 8) rfl ?_); refine Kd.R_lit (Kd.int .u32) _ 44 ?hg (N := 8) ?hd (xs := ([0] : List Int)) (inner := [.int .u32 0]) (ok := fun _ => True) (okp := fun _ => True) ?hr ?hp (fun _ hk => hk) trivial (Below.refl _ _) (Nat.le_refl _) (by simp) ?_; (case hd => rfl); (case hg => rfl); (case hr => first | (go_simp; done) | (go_simp; rfl)); (case hp => exact (Reps.one (show Kd.M (Kd.int .u32) _ _ _ 0 [.int .u32 0] from rfl) (Reps.none _ _))); intro v102 w21 ho22 hb hg_ hnew_; clear hg_ hnew_; (first | rw [← Ny101.out] at ho22 | (simp only [Int.reduceToNat] at ho22; rw [← Ny101.out] at ho22)); have HO103 := Aside0.mk (Kd.R_lower ho22 (below_size (tg HB.out))); replace HB := Aside0.mk (below_step (tg HB.out) hb); clear hb ho22; obtain ⟨Ao23, co23, eo23⟩ := Kd.R_slice HO103.out; subst eo23) | ((with_reducible refine gate_callee (f := 16) rfl ?_); refine goesL_ (some 10) rfl rfl Tryd.func16 (by kernel_rfl) rfl #[.agg #[.string (⟨#[109]⟩ : ByteArray), .slice none 0 0, .slice none 0 0, .slice Ao23 y101.length co23, .slice none 0 0, .slice none 0 0]] rfl tm ?_; (refine (valid_Module.calls k (⟨#[109]⟩ : ByteArray) _ _ ([] : List ByteArray) _ _ ([] : List ByteArray) _ _ y101 _ _ ([] : List Int) _ _ ([] : List (S43)) t104 t105 _ ?side11 ?side1 ?side2 ?side3 ?side4 ?side5 ?side6 ?side7 ?side8 ?side9 ?side10 A1.out).mono ?_); (case side1 => exact Kd.C_nil _ _); (case side2 => exact Nat.le_refl _); (case side3 => exact Kd.C_nil _ _); (case side4 => exact Nat.le_refl _); (case side5 => exact tr HO103.out); (case side6 => exact rl HO103.out); (case side7 => exact Kd.C_nil _ _); (case side8 => exact Nat.le_refl _); (case side9 => exact Kd.C_nil _ _); (case side10 => exact Nat.le_refl _); (case side11 => first | exact HG.out | exact Glob.below HG.out (tg HB.out)); rintro e w24 ⟨rfl, hb⟩; refine ⟨_, rfl, ?_⟩; replace HO103 := ra HO103.out hb; replace HB := Aside0.mk (below_step (tg HB.out) hb); (try clear hb); (try clear hb2); (try clear hk); (try clear hi)) | ((with_reducible refine gate_callee (f := 16) rfl ?_); refine goesL_ (some 15) rfl rfl Tryd.func16 (by kernel_rfl) rfl #[.agg #[.string (⟨#[109]⟩ : ByteArray), .slice none 0 0, .slice none 0 0, .slice none 0 0, .slice none 0 0, .slice none 0 0]] rfl tm ?_; (refine (valid_Module.calls k (⟨#[109]⟩ : ByteArray) _ _ ([] : List ByteArray) _ _ ([] : List ByteArray) _ _ ([] : List Int) _ _ ([] : List Int) _ _ ([] : List (S43)) t106 t107 _ ?side11 ?side1 ?side2 ?side3 ?side4 ?side5 ?side6 ?side7 ?side8 ?side9 ?side10 A2.out).mono ?_); (case side1 => exact Kd.C_nil _ _); (case side2 => exact Nat.le_refl _); (case side3 => exact Kd.C_nil _ _); (case side4 => exact Nat.le_refl _); (case side5 => exact Kd.C_nil _ _); (case side6 => exact Nat.le_refl _); (case side7 => exact Kd.C_nil _ _); (case side8 => exact Nat.le_refl _); (case side9 => exact Kd.C_nil _ _); (case side10 => exact Nat.le_refl _); (case side11 => first | exact HG.out | exact Glob.below HG.out (tg HB.out)); rintro e w25 ⟨rfl, hb⟩; refine ⟨_, rfl, ?_⟩; replace HO103 := ra HO103.out hb; replace HB := Aside0.mk (below_step (tg HB.out) hb); (try clear hb); (try clear hb2); (try clear hk); (try clear hi)) | ((with_reducible refine gate_dst (N := 19) rfl ?_); refine Kd.R_lit (Kd.int .u32) _ 44 ?hg (N := 19) ?hd (xs := ([0, 2281701381] : List Int)) (inner := [.int .u32 0, .int .u32 2281701381]) (ok := fun _ => True) (okp := fun _ => True) ?hr ?hp (fun _ hk => hk) trivial (Below.refl _ _) (Nat.le_refl _) (by simp) ?_; (case hd => rfl); (case hg => rfl); (case hr => first | (go_simp; done) | (go_simp; rfl)); (case hp => exact (Reps.one (show Kd.M (Kd.int .u32) _ _ _ 0 [.int .u32 0] from rfl) (Reps.one (show Kd.M (Kd.int .u32) _ _ _ 2281701381 [.int .u32 2281701381] from rfl) (Reps.none _ _)))); intro v109 w26 ho27 hb hg_ hnew_; clear hg_ hnew_; (first | rw [← Ny108.out] at ho27 | (simp only [Int.reduceToNat] at ho27; rw [← Ny108.out] at ho27)); have n0_ := Aside0.mk (Kd.R_elder' (tk HO103.out) (Kd.R_base ho27) hb); have n1_ := Aside0.mk (Kd.R_lower (Kd.R_new' ho27 (Kd.R_lt (tk HO103.out))) (below_size (tg HB.out))); have n2_ := Aside0.mk (below_step (tg HB.out) hb); clear HO103; clear HB; have HO103 := n0_; have HO110 := n1_; have HB := n2_; clear n0_ n1_ n2_; clear hb ho27; obtain ⟨Ao28, co28, eo28⟩ := Kd.R_slice HO110.out; subst eo28) | ((with_reducible refine gate_callee (f := 16) rfl ?_); refine goesL_ (some 21) rfl rfl Tryd.func16 (by kernel_rfl) rfl #[.agg #[.string (⟨#[109]⟩ : ByteArray), .slice none 0 0, .slice none 0 0, .slice Ao28 y108.length co28, .slice none 0 0, .slice none 0 0]] rfl tm ?_; (refine (valid_Module.calls k (⟨#[109]⟩ : ByteArray) _ _ ([] : List ByteArray) _ _ ([] : List ByteArray) _ _ y108 _ _ ([] : List Int) _ _ ([] : List (S43)) t111 t112 _ ?side11 ?side1 ?side2 ?side3 ?side4 ?side5 ?side6 ?side7 ?side8 ?side9 ?side10 A3.out).mono ?_); (case side1 => exact Kd.C_nil _ _); (case side2 => exact Nat.le_refl _); (case side3 => exact Kd.C_nil _ _); (case side4 => exact Nat.le_refl _); (case side5 => exact tr HO110.out); (case side6 => exact rl HO110.out); (case side7 => exact Kd.C_nil _ _); (case side8 => exact Nat.le_refl _); (case side9 => exact Kd.C_nil _ _); (case side10 => exact Nat.le_refl _); (case side11 => first | exact HG.out | exact Glob.below HG.out (tg HB.out)); rintro e w29 ⟨rfl, hb⟩; refine ⟨_, rfl, ?_⟩; replace HO103 := ra HO103.out hb; replace HO110 := ra HO110.out hb; replace HB := Aside0.mk (below_step (tg HB.out) hb); (try clear hb); (try clear hb2); (try clear hk); (try clear hi)) | (go_at_call 18; (refine (valid_Check.calls k (⟨#[]⟩ : ByteArray) _ _ ([] : List ByteArray) _ _ ([] : List ByteArray) _ _ ([] : List Int) _ _ ([] : List Int) _ _ ([] : List (S43)) t113 _ ?side11 ?side1 ?side2 ?side3 ?side4 ?side5 ?side6 ?side7 ?side8 ?side9 ?side10 A9.out).mono ?_); (case side1 => exact Kd.C_nil _ _); (case side2 => exact Nat.le_refl _); (case side3 => exact Kd.C_nil _ _); (case side4 => exact Nat.le_refl _); (case side5 => exact Kd.C_nil _ _); (case side6 => exact Nat.le_refl _); (case side7 => exact Kd.C_nil _ _); (case side8 => exact Nat.le_refl _); (case side9 => exact Kd.C_nil _ _); (case side10 => exact Nat.le_refl _); (case side11 => first | exact HG.out | exact Glob.below HG.out (tg HB.out)); rintro e w30 ⟨rfl, hb⟩; replace HO103 := ra HO103.out hb; replace HO110 := ra HO110.out hb; replace HB := Aside0.mk (below_step (tg HB.out) hb); (try clear hb); (try clear hb2); (try clear hk); (try clear hi)))
       go_ret
       exact ⟨by first | rfl | (simp [errW_none, errW_some] <;> rfl) | (simp [*, errW_none, errW_some] <;> rfl), tg HB.out⟩
     ·rw [if_neg c8] at H
      have c8b0 : (t112 == 1) = false := beq_eq_false_iff_ne.mpr c8
      have c8b1 : (t112 != 1) = true := bne_iff_ne.mpr c8
      obtain rfl := Option.some.inj H
      go_enter Tryd.func14, Tryd.ntmps14
      go_wp2_with (first | ((with_reducible refine gate_dst (N := 8) rfl ?_); refine Kd.R_lit (Kd.int .u32) _ 44 ?hg (N := 8) ?hd (xs := ([0] : List Int)) (inner := [.int .u32 0]) (ok := fun _ => True) (okp := fun _ => True) ?hr ?hp (fun _ hk => hk) trivial (Below.refl _ _) (Nat.le_refl _) (by simp) ?_; (case hd => rfl); (case hg => rfl); (case hr => first | (go_simp; done) | (go_simp; rfl)); (case hp => exact (Reps.one (show Kd.M (Kd.int .u32) _ _ _ 0 [.int .u32 0] from rfl) (Reps.none _ _))); intro v102 w31 ho32 hb hg_ hnew_; clear hg_ hnew_; (first | rw [← Ny101.out] at ho32 | (simp only [Int.reduceToNat] at ho32; rw [← Ny101.out] at ho32)); have HO103 := Aside0.mk (Kd.R_lower ho32 (below_size (tg HB.out))); replace HB := Aside0.mk (below_step (tg HB.out) hb); clear hb ho32; obtain ⟨Ao33, co33, eo33⟩ := Kd.R_slice HO103.out; subst eo33) | ((with_reducible refine gate_callee (f := 16) rfl ?_); refine goesL_ (some 10) rfl rfl Tryd.func16 (by kernel_rfl) rfl #[.agg #[.string (⟨#[109]⟩ : ByteArray), .slice none 0 0, .slice none 0 0, .slice Ao33 y101.length co33, .slice none 0 0, .slice none 0 0]] rfl tm ?_; (refine (valid_Module.calls k (⟨#[109]⟩ : ByteArray) _ _ ([] : List ByteArray) _ _ ([] : List ByteArray) _ _ y101 _ _ ([] : List Int) _ _ ([] : List (S43)) t104 t105 _ ?side11 ?side1 ?side2 ?side3 ?side4 ?side5 ?side6 ?side7 ?side8 ?side9 ?side10 A1.out).mono ?_); (case side1 => exact Kd.C_nil _ _); (case side2 => exact Nat.le_refl _); (case side3 => exact Kd.C_nil _ _); (case side4 => exact Nat.le_refl _); (case side5 => exact tr HO103.out); (case side6 => exact rl HO103.out); (case side7 => exact Kd.C_nil _ _); (case side8 => exact Nat.le_refl _); (case side9 => exact Kd.C_nil _ _); (case side10 => exact Nat.le_refl _); (case side11 => first | exact HG.out | exact Glob.below HG.out (tg HB.out)); rintro e w34 ⟨rfl, hb⟩; refine ⟨_, rfl, ?_⟩; replace HO103 := ra HO103.out hb; replace HB := Aside0.mk (below_step (tg HB.out) hb); (try clear hb); (try clear hb2); (try clear hk); (try clear hi)) | ((with_reducible refine gate_callee (f := 16) rfl ?_); refine goesL_ (some 15) rfl rfl Tryd.func16 (by kernel_rfl) rfl #[.agg #[.string (⟨#[109]⟩ : ByteArray), .slice none 0 0, .slice none 0 0, .slice none 0 0, .slice none 0 0, .slice none 0 0]] rfl tm ?_; (refine (valid_Module.calls k (⟨#[109]⟩ : ByteArray) _ _ ([] : List ByteArray) _ _ ([] : List ByteArray) _ _ ([] : List Int) _ _ ([] : List Int) _ _ ([] : List (S43)) t106 t107 _ ?side11 ?side1 ?side2 ?side3 ?side4 ?side5 ?side6 ?side7 ?side8 ?side9 ?side10 A2.out).mono ?_); (case side1 => exact Kd.C_nil _ _); (case side2 => exact Nat.le_refl _); (case side3 => exact Kd.C_nil _ _); (case side4 => exact Nat.le_refl _); (case side5 => exact Kd.C_nil _ _); (case side6 => exact Nat.le_refl _); (case side7 => exact Kd.C_nil _ _); (case side8 => exact Nat.le_refl _); (case side9 => exact Kd.C_nil _ _); (case side10 => exact Nat.le_refl _); (case side11 => first | exact HG.out | exact Glob.below HG.out (tg HB.out)); rintro e w35 ⟨rfl, hb⟩; refine ⟨_, rfl, ?_⟩; replace HO103 := ra HO103.out hb; replace HB := Aside0.mk (below_step (tg HB.out) hb); (try clear hb); (try clear hb2); (try clear hk); (try clear hi)) | ((with_reducible refine gate_dst (N := 19) rfl ?_); refine Kd.R_lit (Kd.int .u32) _ 44 ?hg (N := 19) ?hd (xs := ([0, 2281701381] : List Int)) (inner := [.int .u32 0, .int .u32 2281701381]) (ok := fun _ => True) (okp := fun _ => True) ?hr ?hp (fun _ hk => hk) trivial (Below.refl _ _) (Nat.le_refl _) (by simp) ?_; (case hd => rfl); (case hg => rfl); (case hr => first | (go_simp; done) | (go_simp; rfl)); (case hp => exact (Reps.one (show Kd.M (Kd.int .u32) _ _ _ 0 [.int .u32 0] from rfl) (Reps.one (show Kd.M (Kd.int .u32) _ _ _ 2281701381 [.int .u32 2281701381] from rfl) (Reps.none _ _)))); intro v109 w36 ho37 hb hg_ hnew_; clear hg_ hnew_; (first | rw [← Ny108.out] at ho37 | (simp only [Int.reduceToNat] at ho37; rw [← Ny108.out] at ho37)); have n0_ := Aside0.mk (Kd.R_elder' (tk HO103.out) (Kd.R_base ho37) hb); have n1_ := Aside0.mk (Kd.R_lower (Kd.R_new' ho37 (Kd.R_lt (tk HO103.out))) (below_size (tg HB.out))); have n2_ := Aside0.mk (below_step (tg HB.out) hb); clear HO103; clear HB; have HO103 := n0_; have HO110 := n1_; have HB := n2_; clear n0_ n1_ n2_; clear hb ho37; obtain ⟨Ao38, co38, eo38⟩ := Kd.R_slice HO110.out; subst eo38) | ((with_reducible refine gate_callee (f := 16) rfl ?_); refine goesL_ (some 21) rfl rfl Tryd.func16 (by kernel_rfl) rfl #[.agg #[.string (⟨#[109]⟩ : ByteArray), .slice none 0 0, .slice none 0 0, .slice Ao38 y108.length co38, .slice none 0 0, .slice none 0 0]] rfl tm ?_; (refine (valid_Module.calls k (⟨#[109]⟩ : ByteArray) _ _ ([] : List ByteArray) _ _ ([] : List ByteArray) _ _ y108 _ _ ([] : List Int) _ _ ([] : List (S43)) t111 t112 _ ?side11 ?side1 ?side2 ?side3 ?side4 ?side5 ?side6 ?side7 ?side8 ?side9 ?side10 A3.out).mono ?_); (case side1 => exact Kd.C_nil _ _); (case side2 => exact Nat.le_refl _); (case side3 => exact Kd.C_nil _ _); (case side4 => exact Nat.le_refl _); (case side5 => exact tr HO110.out); (case side6 => exact rl HO110.out); (case side7 => exact Kd.C_nil _ _); (case side8 => exact Nat.le_refl _); (case side9 => exact Kd.C_nil _ _); (case side10 => exact Nat.le_refl _); (case side11 => first | exact HG.out | exact Glob.below HG.out (tg HB.out)); rintro e w39 ⟨rfl, hb⟩; refine ⟨_, rfl, ?_⟩; replace HO103 := ra HO103.out hb; replace HO110 := ra HO110.out hb; replace HB := Aside0.mk (below_step (tg HB.out) hb); (try clear hb); (try clear hb2); (try clear hk); (try clear hi)))
      go_ret
      exact ⟨by first | rfl | (simp [errW_none, errW_some] <;> rfl) | (simp [*, errW_none, errW_some] <;> rfl), tg HB.out⟩
    ·rw [if_neg c7] at H
     have c7b0 : (t111 == 9) = false := beq_eq_false_iff_ne.mpr c7
     have c7b1 : (t111 != 9) = true := bne_iff_ne.mpr c7
     obtain rfl := Option.some.inj H
     go_enter Tryd.func14, Tryd.ntmps14
     go_wp2_with (first | ((with_reducible refine gate_dst (N := 8) rfl ?_); refine Kd.R_lit (Kd.int .u32) _ 44 ?hg (N := 8) ?hd (xs := ([0] : List Int)) (inner := [.int .u32 0]) (ok := fun _ => True) (okp := fun _ => True) ?hr ?hp (fun _ hk => hk) trivial (Below.refl _ _) (Nat.le_refl _) (by simp) ?_; (case hd => rfl); (case hg => rfl); (case hr => first | (go_simp; done) | (go_simp; rfl)); (case hp => exact (Reps.one (show Kd.M (Kd.int .u32) _ _ _ 0 [.int .u32 0] from rfl) (Reps.none _ _))); intro v102 w40 ho41 hb hg_ hnew_; clear hg_ hnew_; (first | rw [← Ny101.out] at ho41 | (simp only [Int.reduceToNat] at ho41; rw [← Ny101.out] at ho41)); have HO103 := Aside0.mk (Kd.R_lower ho41 (below_size (tg HB.out))); replace HB := Aside0.mk (below_step (tg HB.out) hb); clear hb ho41; obtain ⟨Ao42, co42, eo42⟩ := Kd.R_slice HO103.out; subst eo42) | ((with_reducible refine gate_callee (f := 16) rfl ?_); refine goesL_ (some 10) rfl rfl Tryd.func16 (by kernel_rfl) rfl #[.agg #[.string (⟨#[109]⟩ : ByteArray), .slice none 0 0, .slice none 0 0, .slice Ao42 y101.length co42, .slice none 0 0, .slice none 0 0]] rfl tm ?_; (refine (valid_Module.calls k (⟨#[109]⟩ : ByteArray) _ _ ([] : List ByteArray) _ _ ([] : List ByteArray) _ _ y101 _ _ ([] : List Int) _ _ ([] : List (S43)) t104 t105 _ ?side11 ?side1 ?side2 ?side3 ?side4 ?side5 ?side6 ?side7 ?side8 ?side9 ?side10 A1.out).mono ?_); (case side1 => exact Kd.C_nil _ _); (case side2 => exact Nat.le_refl _); (case side3 => exact Kd.C_nil _ _); (case side4 => exact Nat.le_refl _); (case side5 => exact tr HO103.out); (case side6 => exact rl HO103.out); (case side7 => exact Kd.C_nil _ _); (case side8 => exact Nat.le_refl _); (case side9 => exact Kd.C_nil _ _); (case side10 => exact Nat.le_refl _); (case side11 => first | exact HG.out | exact Glob.below HG.out (tg HB.out)); rintro e w43 ⟨rfl, hb⟩; refine ⟨_, rfl, ?_⟩; replace HO103 := ra HO103.out hb; replace HB := Aside0.mk (below_step (tg HB.out) hb); (try clear hb); (try clear hb2); (try clear hk); (try clear hi)) | ((with_reducible refine gate_callee (f := 16) rfl ?_); refine goesL_ (some 15) rfl rfl Tryd.func16 (by kernel_rfl) rfl #[.agg #[.string (⟨#[109]⟩ : ByteArray), .slice none 0 0, .slice none 0 0, .slice none 0 0, .slice none 0 0, .slice none 0 0]] rfl tm ?_; (refine (valid_Module.calls k (⟨#[109]⟩ : ByteArray) _ _ ([] : List ByteArray) _ _ ([] : List ByteArray) _ _ ([] : List Int) _ _ ([] : List Int) _ _ ([] : List (S43)) t106 t107 _ ?side11 ?side1 ?side2 ?side3 ?side4 ?side5 ?side6 ?side7 ?side8 ?side9 ?side10 A2.out).mono ?_); (case side1 => exact Kd.C_nil _ _); (case side2 => exact Nat.le_refl _); (case side3 => exact Kd.C_nil _ _); (case side4 => exact Nat.le_refl _); (case side5 => exact Kd.C_nil _ _); (case side6 => exact Nat.le_refl _); (case side7 => exact Kd.C_nil _ _); (case side8 => exact Nat.le_refl _); (case side9 => exact Kd.C_nil _ _); (case side10 => exact Nat.le_refl _); (case side11 => first | exact HG.out | exact Glob.below HG.out (tg HB.out)); rintro e w44 ⟨rfl, hb⟩; refine ⟨_, rfl, ?_⟩; replace HO103 := ra HO103.out hb; replace HB := Aside0.mk (below_step (tg HB.out) hb); (try clear hb); (try clear hb2); (try clear hk); (try clear hi)) | ((with_reducible refine gate_dst (N := 19) rfl ?_); refine Kd.R_lit (Kd.int .u32) _ 44 ?hg (N := 19) ?hd (xs := ([0, 2281701381] : List Int)) (inner := [.int .u32 0, .int .u32 2281701381]) (ok := fun _ => True) (okp := fun _ => True) ?hr ?hp (fun _ hk => hk) trivial (Below.refl _ _) (Nat.le_refl _) (by simp) ?_; (case hd => rfl); (case hg => rfl); (case hr => first | (go_simp; done) | (go_simp; rfl)); (case hp => exact (Reps.one (show Kd.M (Kd.int .u32) _ _ _ 0 [.int .u32 0] from rfl) (Reps.one (show Kd.M (Kd.int .u32) _ _ _ 2281701381 [.int .u32 2281701381] from rfl) (Reps.none _ _)))); intro v109 w45 ho46 hb hg_ hnew_; clear hg_ hnew_; (first | rw [← Ny108.out] at ho46 | (simp only [Int.reduceToNat] at ho46; rw [← Ny108.out] at ho46)); have n0_ := Aside0.mk (Kd.R_elder' (tk HO103.out) (Kd.R_base ho46) hb); have n1_ := Aside0.mk (Kd.R_lower (Kd.R_new' ho46 (Kd.R_lt (tk HO103.out))) (below_size (tg HB.out))); have n2_ := Aside0.mk (below_step (tg HB.out) hb); clear HO103; clear HB; have HO103 := n0_; have HO110 := n1_; have HB := n2_; clear n0_ n1_ n2_; clear hb ho46; obtain ⟨Ao47, co47, eo47⟩ := Kd.R_slice HO110.out; subst eo47) | ((with_reducible refine gate_callee (f := 16) rfl ?_); refine goesL_ (some 21) rfl rfl Tryd.func16 (by kernel_rfl) rfl #[.agg #[.string (⟨#[109]⟩ : ByteArray), .slice none 0 0, .slice none 0 0, .slice Ao47 y108.length co47, .slice none 0 0, .slice none 0 0]] rfl tm ?_; (refine (valid_Module.calls k (⟨#[109]⟩ : ByteArray) _ _ ([] : List ByteArray) _ _ ([] : List ByteArray) _ _ y108 _ _ ([] : List Int) _ _ ([] : List (S43)) t111 t112 _ ?side11 ?side1 ?side2 ?side3 ?side4 ?side5 ?side6 ?side7 ?side8 ?side9 ?side10 A3.out).mono ?_); (case side1 => exact Kd.C_nil _ _); (case side2 => exact Nat.le_refl _); (case side3 => exact Kd.C_nil _ _); (case side4 => exact Nat.le_refl _); (case side5 => exact tr HO110.out); (case side6 => exact rl HO110.out); (case side7 => exact Kd.C_nil _ _); (case side8 => exact Nat.le_refl _); (case side9 => exact Kd.C_nil _ _); (case side10 => exact Nat.le_refl _); (case side11 => first | exact HG.out | exact Glob.below HG.out (tg HB.out)); rintro e w48 ⟨rfl, hb⟩; refine ⟨_, rfl, ?_⟩; replace HO103 := ra HO103.out hb; replace HO110 := ra HO110.out hb; replace HB := Aside0.mk (below_step (tg HB.out) hb); (try clear hb); (try clear hb2); (try clear hk); (try clear hi)))
     go_ret
     exact ⟨by first | rfl | (simp [errW_none, errW_some] <;> rfl) | (simp [*, errW_none, errW_some] <;> rfl), tg HB.out⟩
   ·rw [if_neg c6] at H
    have c6b0 : (t106 == 4) = false := beq_eq_false_iff_ne.mpr c6
    have c6b1 : (t106 != 4) = true := bne_iff_ne.mpr c6
    obtain rfl := Option.some.inj H
    go_enter Tryd.func14, Tryd.ntmps14
    go_wp2_with (first | ((with_reducible refine gate_dst (N := 8) rfl ?_); refine Kd.R_lit (Kd.int .u32) _ 44 ?hg (N := 8) ?hd (xs := ([0] : List Int)) (inner := [.int .u32 0]) (ok := fun _ => True) (okp := fun _ => True) ?hr ?hp (fun _ hk => hk) trivial (Below.refl _ _) (Nat.le_refl _) (by simp) ?_; (case hd => rfl); (case hg => rfl); (case hr => first | (go_simp; done) | (go_simp; rfl)); (case hp => exact (Reps.one (show Kd.M (Kd.int .u32) _ _ _ 0 [.int .u32 0] from rfl) (Reps.none _ _))); intro v102 w49 ho50 hb hg_ hnew_; clear hg_ hnew_; (first | rw [← Ny101.out] at ho50 | (simp only [Int.reduceToNat] at ho50; rw [← Ny101.out] at ho50)); have HO103 := Aside0.mk (Kd.R_lower ho50 (below_size (tg HB.out))); replace HB := Aside0.mk (below_step (tg HB.out) hb); clear hb ho50; obtain ⟨Ao51, co51, eo51⟩ := Kd.R_slice HO103.out; subst eo51) | ((with_reducible refine gate_callee (f := 16) rfl ?_); refine goesL_ (some 10) rfl rfl Tryd.func16 (by kernel_rfl) rfl #[.agg #[.string (⟨#[109]⟩ : ByteArray), .slice none 0 0, .slice none 0 0, .slice Ao51 y101.length co51, .slice none 0 0, .slice none 0 0]] rfl tm ?_; (refine (valid_Module.calls k (⟨#[109]⟩ : ByteArray) _ _ ([] : List ByteArray) _ _ ([] : List ByteArray) _ _ y101 _ _ ([] : List Int) _ _ ([] : List (S43)) t104 t105 _ ?side11 ?side1 ?side2 ?side3 ?side4 ?side5 ?side6 ?side7 ?side8 ?side9 ?side10 A1.out).mono ?_); (case side1 => exact Kd.C_nil _ _); (case side2 => exact Nat.le_refl _); (case side3 => exact Kd.C_nil _ _); (case side4 => exact Nat.le_refl _); (case side5 => exact tr HO103.out); (case side6 => exact rl HO103.out); (case side7 => exact Kd.C_nil _ _); (case side8 => exact Nat.le_refl _); (case side9 => exact Kd.C_nil _ _); (case side10 => exact Nat.le_refl _); (case side11 => first | exact HG.out | exact Glob.below HG.out (tg HB.out)); rintro e w52 ⟨rfl, hb⟩; refine ⟨_, rfl, ?_⟩; replace HO103 := ra HO103.out hb; replace HB := Aside0.mk (below_step (tg HB.out) hb); (try clear hb); (try clear hb2); (try clear hk); (try clear hi)) | ((with_reducible refine gate_callee (f := 16) rfl ?_); refine goesL_ (some 15) rfl rfl Tryd.func16 (by kernel_rfl) rfl #[.agg #[.string (⟨#[109]⟩ : ByteArray), .slice none 0 0, .slice none 0 0, .slice none 0 0, .slice none 0 0, .slice none 0 0]] rfl tm ?_; (refine (valid_Module.calls k (⟨#[109]⟩ : ByteArray) _ _ ([] : List ByteArray) _ _ ([] : List ByteArray) _ _ ([] : List Int) _ _ ([] : List Int) _ _ ([] : List (S43)) t106 t107 _ ?side11 ?side1 ?side2 ?side3 ?side4 ?side5 ?side6 ?side7 ?side8 ?side9 ?side10 A2.out).mono ?_); (case side1 => exact Kd.C_nil _ _); (case side2 => exact Nat.le_refl _); (case side3 => exact Kd.C_nil _ _); (case side4 => exact Nat.le_refl _); (case side5 => exact Kd.C_nil _ _); (case side6 => exact Nat.le_refl _); (case side7 => exact Kd.C_nil _ _); (case side8 => exact Nat.le_refl _); (case side9 => exact Kd.C_nil _ _); (case side10 => exact Nat.le_refl _); (case side11 => first | exact HG.out | exact Glob.below HG.out (tg HB.out)); rintro e w53 ⟨rfl, hb⟩; refine ⟨_, rfl, ?_⟩; replace HO103 := ra HO103.out hb; replace HB := Aside0.mk (below_step (tg HB.out) hb); (try clear hb); (try clear hb2); (try clear hk); (try clear hi)) | ((with_reducible refine gate_dst (N := 19) rfl ?_); refine Kd.R_lit (Kd.int .u32) _ 44 ?hg (N := 19) ?hd (xs := ([0, 2281701381] : List Int)) (inner := [.int .u32 0, .int .u32 2281701381]) (ok := fun _ => True) (okp := fun _ => True) ?hr ?hp (fun _ hk => hk) trivial (Below.refl _ _) (Nat.le_refl _) (by simp) ?_; (case hd => rfl); (case hg => rfl); (case hr => first | (go_simp; done) | (go_simp; rfl)); (case hp => exact (Reps.one (show Kd.M (Kd.int .u32) _ _ _ 0 [.int .u32 0] from rfl) (Reps.one (show Kd.M (Kd.int .u32) _ _ _ 2281701381 [.int .u32 2281701381] from rfl) (Reps.none _ _)))); intro v109 w54 ho55 hb hg_ hnew_; clear hg_ hnew_; (first | rw [← Ny108.out] at ho55 | (simp only [Int.reduceToNat] at ho55; rw [← Ny108.out] at ho55)); have n0_ := Aside0.mk (Kd.R_elder' (tk HO103.out) (Kd.R_base ho55) hb); have n1_ := Aside0.mk (Kd.R_lower (Kd.R_new' ho55 (Kd.R_lt (tk HO103.out))) (below_size (tg HB.out))); have n2_ := Aside0.mk (below_step (tg HB.out) hb); clear HO103; clear HB; have HO103 := n0_; have HO110 := n1_; have HB := n2_; clear n0_ n1_ n2_; clear hb ho55; obtain ⟨Ao56, co56, eo56⟩ := Kd.R_slice HO110.out; subst eo56) | ((with_reducible refine gate_callee (f := 16) rfl ?_); refine goesL_ (some 21) rfl rfl Tryd.func16 (by kernel_rfl) rfl #[.agg #[.string (⟨#[109]⟩ : ByteArray), .slice none 0 0, .slice none 0 0, .slice Ao56 y108.length co56, .slice none 0 0, .slice none 0 0]] rfl tm ?_; (refine (valid_Module.calls k (⟨#[109]⟩ : ByteArray) _ _ ([] : List ByteArray) _ _ ([] : List ByteArray) _ _ y108 _ _ ([] : List Int) _ _ ([] : List (S43)) t111 t112 _ ?side11 ?side1 ?side2 ?side3 ?side4 ?side5 ?side6 ?side7 ?side8 ?side9 ?side10 A3.out).mono ?_); (case side1 => exact Kd.C_nil _ _); (case side2 => exact Nat.le_refl _); (case side3 => exact Kd.C_nil _ _); (case side4 => exact Nat.le_refl _); (case side5 => exact tr HO110.out); (case side6 => exact rl HO110.out); (case side7 => exact Kd.C_nil _ _); (case side8 => exact Nat.le_refl _); (case side9 => exact Kd.C_nil _ _); (case side10 => exact Nat.le_refl _); (case side11 => first | exact HG.out | exact Glob.below HG.out (tg HB.out)); rintro e w57 ⟨rfl, hb⟩; refine ⟨_, rfl, ?_⟩; replace HO103 := ra HO103.out hb; replace HO110 := ra HO110.out hb; replace HB := Aside0.mk (below_step (tg HB.out) hb); (try clear hb); (try clear hb2); (try clear hk); (try clear hi)))
    go_ret
    exact ⟨by first | rfl | (simp [errW_none, errW_some] <;> rfl) | (simp [*, errW_none, errW_some] <;> rfl), tg HB.out⟩
  ·rw [if_neg c5] at H
   have c5b0 : (t105 == 0) = false := beq_eq_false_iff_ne.mpr c5
   have c5b1 : (t105 != 0) = true := bne_iff_ne.mpr c5
   obtain rfl := Option.some.inj H
   go_enter Tryd.func14, Tryd.ntmps14
   go_wp2_with (first | ((with_reducible refine gate_dst (N := 8) rfl ?_); refine Kd.R_lit (Kd.int .u32) _ 44 ?hg (N := 8) ?hd (xs := ([0] : List Int)) (inner := [.int .u32 0]) (ok := fun _ => True) (okp := fun _ => True) ?hr ?hp (fun _ hk => hk) trivial (Below.refl _ _) (Nat.le_refl _) (by simp) ?_; (case hd => rfl); (case hg => rfl); (case hr => first | (go_simp; done) | (go_simp; rfl)); (case hp => exact (Reps.one (show Kd.M (Kd.int .u32) _ _ _ 0 [.int .u32 0] from rfl) (Reps.none _ _))); intro v102 w58 ho59 hb hg_ hnew_; clear hg_ hnew_; (first | rw [← Ny101.out] at ho59 | (simp only [Int.reduceToNat] at ho59; rw [← Ny101.out] at ho59)); have HO103 := Aside0.mk (Kd.R_lower ho59 (below_size (tg HB.out))); replace HB := Aside0.mk (below_step (tg HB.out) hb); clear hb ho59; obtain ⟨Ao60, co60, eo60⟩ := Kd.R_slice HO103.out; subst eo60) | ((with_reducible refine gate_callee (f := 16) rfl ?_); refine goesL_ (some 10) rfl rfl Tryd.func16 (by kernel_rfl) rfl #[.agg #[.string (⟨#[109]⟩ : ByteArray), .slice none 0 0, .slice none 0 0, .slice Ao60 y101.length co60, .slice none 0 0, .slice none 0 0]] rfl tm ?_; (refine (valid_Module.calls k (⟨#[109]⟩ : ByteArray) _ _ ([] : List ByteArray) _ _ ([] : List ByteArray) _ _ y101 _ _ ([] : List Int) _ _ ([] : List (S43)) t104 t105 _ ?side11 ?side1 ?side2 ?side3 ?side4 ?side5 ?side6 ?side7 ?side8 ?side9 ?side10 A1.out).mono ?_); (case side1 => exact Kd.C_nil _ _); (case side2 => exact Nat.le_refl _); (case side3 => exact Kd.C_nil _ _); (case side4 => exact Nat.le_refl _); (case side5 => exact tr HO103.out); (case side6 => exact rl HO103.out); (case side7 => exact Kd.C_nil _ _); (case side8 => exact Nat.le_refl _); (case side9 => exact Kd.C_nil _ _); (case side10 => exact Nat.le_refl _); (case side11 => first | exact HG.out | exact Glob.below HG.out (tg HB.out)); rintro e w61 ⟨rfl, hb⟩; refine ⟨_, rfl, ?_⟩; replace HO103 := ra HO103.out hb; replace HB := Aside0.mk (below_step (tg HB.out) hb); (try clear hb); (try clear hb2); (try clear hk); (try clear hi)) | ((with_reducible refine gate_callee (f := 16) rfl ?_); refine goesL_ (some 15) rfl rfl Tryd.func16 (by kernel_rfl) rfl #[.agg #[.string (⟨#[109]⟩ : ByteArray), .slice none 0 0, .slice none 0 0, .slice none 0 0, .slice none 0 0, .slice none 0 0]] rfl tm ?_; (refine (valid_Module.calls k (⟨#[109]⟩ : ByteArray) _ _ ([] : List ByteArray) _ _ ([] : List ByteArray) _ _ ([] : List Int) _ _ ([] : List Int) _ _ ([] : List (S43)) t106 t107 _ ?side11 ?side1 ?side2 ?side3 ?side4 ?side5 ?side6 ?side7 ?side8 ?side9 ?side10 A2.out).mono ?_); (case side1 => exact Kd.C_nil _ _); (case side2 => exact Nat.le_refl _); (case side3 => exact Kd.C_nil _ _); (case side4 => exact Nat.le_refl _); (case side5 => exact Kd.C_nil _ _); (case side6 => exact Nat.le_refl _); (case side7 => exact Kd.C_nil _ _); (case side8 => exact Nat.le_refl _); (case side9 => exact Kd.C_nil _ _); (case side10 => exact Nat.le_refl _); (case side11 => first | exact HG.out | exact Glob.below HG.out (tg HB.out)); rintro e w62 ⟨rfl, hb⟩; refine ⟨_, rfl, ?_⟩; replace HO103 := ra HO103.out hb; replace HB := Aside0.mk (below_step (tg HB.out) hb); (try clear hb); (try clear hb2); (try clear hk); (try clear hi)) | ((with_reducible refine gate_dst (N := 19) rfl ?_); refine Kd.R_lit (Kd.int .u32) _ 44 ?hg (N := 19) ?hd (xs := ([0, 2281701381] : List Int)) (inner := [.int .u32 0, .int .u32 2281701381]) (ok := fun _ => True) (okp := fun _ => True) ?hr ?hp (fun _ hk => hk) trivial (Below.refl _ _) (Nat.le_refl _) (by simp) ?_; (case hd => rfl); (case hg => rfl); (case hr => first | (go_simp; done) | (go_simp; rfl)); (case hp => exact (Reps.one (show Kd.M (Kd.int .u32) _ _ _ 0 [.int .u32 0] from rfl) (Reps.one (show Kd.M (Kd.int .u32) _ _ _ 2281701381 [.int .u32 2281701381] from rfl) (Reps.none _ _)))); intro v109 w63 ho64 hb hg_ hnew_; clear hg_ hnew_; (first | rw [← Ny108.out] at ho64 | (simp only [Int.reduceToNat] at ho64; rw [← Ny108.out] at ho64)); have n0_ := Aside0.mk (Kd.R_elder' (tk HO103.out) (Kd.R_base ho64) hb); have n1_ := Aside0.mk (Kd.R_lower (Kd.R_new' ho64 (Kd.R_lt (tk HO103.out))) (below_size (tg HB.out))); have n2_ := Aside0.mk (below_step (tg HB.out) hb); clear HO103; clear HB; have HO103 := n0_; have HO110 := n1_; have HB := n2_; clear n0_ n1_ n2_; clear hb ho64; obtain ⟨Ao65, co65, eo65⟩ := Kd.R_slice HO110.out; subst eo65) | ((with_reducible refine gate_callee (f := 16) rfl ?_); refine goesL_ (some 21) rfl rfl Tryd.func16 (by kernel_rfl) rfl #[.agg #[.string (⟨#[109]⟩ : ByteArray), .slice none 0 0, .slice none 0 0, .slice Ao65 y108.length co65, .slice none 0 0, .slice none 0 0]] rfl tm ?_; (refine (valid_Module.calls k (⟨#[109]⟩ : ByteArray) _ _ ([] : List ByteArray) _ _ ([] : List ByteArray) _ _ y108 _ _ ([] : List Int) _ _ ([] : List (S43)) t111 t112 _ ?side11 ?side1 ?side2 ?side3 ?side4 ?side5 ?side6 ?side7 ?side8 ?side9 ?side10 A3.out).mono ?_); (case side1 => exact Kd.C_nil _ _); (case side2 => exact Nat.le_refl _); (case side3 => exact Kd.C_nil _ _); (case side4 => exact Nat.le_refl _); (case side5 => exact tr HO110.out); (case side6 => exact rl HO110.out); (case side7 => exact Kd.C_nil _ _); (case side8 => exact Nat.le_refl _); (case side9 => exact Kd.C_nil _ _); (case side10 => exact Nat.le_refl _); (case side11 => first | exact HG.out | exact Glob.below HG.out (tg HB.out)); rintro e w66 ⟨rfl, hb⟩; refine ⟨_, rfl, ?_⟩; replace HO103 := ra HO103.out hb; replace HO110 := ra HO110.out hb; replace HB := Aside0.mk (below_step (tg HB.out) hb); (try clear hb); (try clear hb2); (try clear hk); (try clear hi)))
   go_ret
   exact ⟨by first | rfl | (simp [errW_none, errW_some] <;> rfl) | (simp [*, errW_none, errW_some] <;> rfl), tg HB.out⟩
 ·rw [if_neg c4] at H
  have c4b0 : (t104 == 0) = false := beq_eq_false_iff_ne.mpr c4
  have c4b1 : (t104 != 0) = true := bne_iff_ne.mpr c4
  obtain rfl := Option.some.inj H
  go_enter Tryd.func14, Tryd.ntmps14
  go_wp2_with (first | ((with_reducible refine gate_dst (N := 8) rfl ?_); refine Kd.R_lit (Kd.int .u32) _ 44 ?hg (N := 8) ?hd (xs := ([0] : List Int)) (inner := [.int .u32 0]) (ok := fun _ => True) (okp := fun _ => True) ?hr ?hp (fun _ hk => hk) trivial (Below.refl _ _) (Nat.le_refl _) (by simp) ?_; (case hd => rfl); (case hg => rfl); (case hr => first | (go_simp; done) | (go_simp; rfl)); (case hp => exact (Reps.one (show Kd.M (Kd.int .u32) _ _ _ 0 [.int .u32 0] from rfl) (Reps.none _ _))); intro v102 w67 ho68 hb hg_ hnew_; clear hg_ hnew_; (first | rw [← Ny101.out] at ho68 | (simp only [Int.reduceToNat] at ho68; rw [← Ny101.out] at ho68)); have HO103 := Aside0.mk (Kd.R_lower ho68 (below_size (tg HB.out))); replace HB := Aside0.mk (below_step (tg HB.out) hb); clear hb ho68; obtain ⟨Ao69, co69, eo69⟩ := Kd.R_slice HO103.out; subst eo69) | ((with_reducible refine gate_callee (f := 16) rfl ?_); refine goesL_ (some 10) rfl rfl Tryd.func16 (by kernel_rfl) rfl #[.agg #[.string (⟨#[109]⟩ : ByteArray), .slice none 0 0, .slice none 0 0, .slice Ao69 y101.length co69, .slice none 0 0, .slice none 0 0]] rfl tm ?_; (refine (valid_Module.calls k (⟨#[109]⟩ : ByteArray) _ _ ([] : List ByteArray) _ _ ([] : List ByteArray) _ _ y101 _ _ ([] : List Int) _ _ ([] : List (S43)) t104 t105 _ ?side11 ?side1 ?side2 ?side3 ?side4 ?side5 ?side6 ?side7 ?side8 ?side9 ?side10 A1.out).mono ?_); (case side1 => exact Kd.C_nil _ _); (case side2 => exact Nat.le_refl _); (case side3 => exact Kd.C_nil _ _); (case side4 => exact Nat.le_refl _); (case side5 => exact tr HO103.out); (case side6 => exact rl HO103.out); (case side7 => exact Kd.C_nil _ _); (case side8 => exact Nat.le_refl _); (case side9 => exact Kd.C_nil _ _); (case side10 => exact Nat.le_refl _); (case side11 => first | exact HG.out | exact Glob.below HG.out (tg HB.out)); rintro e w70 ⟨rfl, hb⟩; refine ⟨_, rfl, ?_⟩; replace HO103 := ra HO103.out hb; replace HB := Aside0.mk (below_step (tg HB.out) hb); (try clear hb); (try clear hb2); (try clear hk); (try clear hi)) | ((with_reducible refine gate_callee (f := 16) rfl ?_); refine goesL_ (some 15) rfl rfl Tryd.func16 (by kernel_rfl) rfl #[.agg #[.string (⟨#[109]⟩ : ByteArray), .slice none 0 0, .slice none 0 0, .slice none 0 0, .slice none 0 0, .slice none 0 0]] rfl tm ?_; (refine (valid_Module.calls k (⟨#[109]⟩ : ByteArray) _ _ ([] : List ByteArray) _ _ ([] : List ByteArray) _ _ ([] : List Int) _ _ ([] : List Int) _ _ ([] : List (S43)) t106 t107 _ ?side11 ?side1 ?side2 ?side3 ?side4 ?side5 ?side6 ?side7 ?side8 ?side9 ?side10 A2.out).mono ?_); (case side1 => exact Kd.C_nil _ _); (case side2 => exact Nat.le_refl _); (case side3 => exact Kd.C_nil _ _); (case side4 => exact Nat.le_refl _); (case side5 => exact Kd.C_nil _ _); (case side6 => exact Nat.le_refl _); (case side7 => exact Kd.C_nil _ _); (case side8 => exact Nat.le_refl _); (case side9 => exact Kd.C_nil _ _); (case side10 => exact Nat.le_refl _); (case side11 => first | exact HG.out | exact Glob.below HG.out (tg HB.out)); rintro e w71 ⟨rfl, hb⟩; refine ⟨_, rfl, ?_⟩; replace HO103 := ra HO103.out hb; replace HB := Aside0.mk (below_step (tg HB.out) hb); (try clear hb); (try clear hb2); (try clear hk); (try clear hi)) | ((with_reducible refine gate_dst (N := 19) rfl ?_); refine Kd.R_lit (Kd.int .u32) _ 44 ?hg (N := 19) ?hd (xs := ([0, 2281701381] : List Int)) (inner := [.int .u32 0, .int .u32 2281701381]) (ok := fun _ => True) (okp := fun _ => True) ?hr ?hp (fun _ hk => hk) trivial (Below.refl _ _) (Nat.le_refl _) (by simp) ?_; (case hd => rfl); (case hg => rfl); (case hr => first | (go_simp; done) | (go_simp; rfl)); (case hp => exact (Reps.one (show Kd.M (Kd.int .u32) _ _ _ 0 [.int .u32 0] from rfl) (Reps.one (show Kd.M (Kd.int .u32) _ _ _ 2281701381 [.int .u32 2281701381] from rfl) (Reps.none _ _)))); intro v109 w72 ho73 hb hg_ hnew_; clear hg_ hnew_; (first | rw [← Ny108.out] at ho73 | (simp only [Int.reduceToNat] at ho73; rw [← Ny108.out] at ho73)); have n0_ := Aside0.mk (Kd.R_elder' (tk HO103.out) (Kd.R_base ho73) hb); have n1_ := Aside0.mk (Kd.R_lower (Kd.R_new' ho73 (Kd.R_lt (tk HO103.out))) (below_size (tg HB.out))); have n2_ := Aside0.mk (below_step (tg HB.out) hb); clear HO103; clear HB; have HO103 := n0_; have HO110 := n1_; have HB := n2_; clear n0_ n1_ n2_; clear hb ho73; obtain ⟨Ao74, co74, eo74⟩ := Kd.R_slice HO110.out; subst eo74) | ((with_reducible refine gate_callee (f := 16) rfl ?_); refine goesL_ (some 21) rfl rfl Tryd.func16 (by kernel_rfl) rfl #[.agg #[.string (⟨#[109]⟩ : ByteArray), .slice none 0 0, .slice none 0 0, .slice Ao74 y108.length co74, .slice none 0 0, .slice none 0 0]] rfl tm ?_; (refine (valid_Module.calls k (⟨#[109]⟩ : ByteArray) _ _ ([] : List ByteArray) _ _ ([] : List ByteArray) _ _ y108 _ _ ([] : List Int) _ _ ([] : List (S43)) t111 t112 _ ?side11 ?side1 ?side2 ?side3 ?side4 ?side5 ?side6 ?side7 ?side8 ?side9 ?side10 A3.out).mono ?_); (case side1 => exact Kd.C_nil _ _); (case side2 => exact Nat.le_refl _); (case side3 => exact Kd.C_nil _ _); (case side4 => exact Nat.le_refl _); (case side5 => exact tr HO110.out); (case side6 => exact rl HO110.out); (case side7 => exact Kd.C_nil _ _); (case side8 => exact Nat.le_refl _); (case side9 => exact Kd.C_nil _ _); (case side10 => exact Nat.le_refl _); (case side11 => first | exact HG.out | exact Glob.below HG.out (tg HB.out)); rintro e w75 ⟨rfl, hb⟩; refine ⟨_, rfl, ?_⟩; replace HO103 := ra HO103.out hb; replace HO110 := ra HO110.out hb; replace HB := Aside0.mk (below_step (tg HB.out) hb); (try clear hb); (try clear hb2); (try clear hk); (try clear hi)))
  go_ret
  exact ⟨by first | rfl | (simp [errW_none, errW_some] <;> rfl) | (simp [*, errW_none, errW_some] <;> rfl), tg HB.out⟩

end Go.Proofs.YtiphindialkmnaaDoor.X
end
section
namespace Go.Proofs.YtiphindialkmnaaDoor.X
open Go.RowKit Go.Proofs.YtiphindialkmnaaDoorW.PrintWords Go.Proofs.YtiphindialkmnaaDoorW.PrintLast Go.Proofs.YtiphindialkmnaaDoorW.PrintMore
set_option maxRecDepth 100000
theorem awake_true : budwoodlaw11_awake.f 60 = some true := by kernel_rfl
theorem lift_mono {β : Type} {F : Nat → Option β} (hm : ∀ k, LeO (F k) (F (k + 1))) {k : Nat} {r : β} (h : F k = some r) : ∀ {k'}, k ≤ k' → F k' = some r := by
  intro k' hk
  induction hk with
  | refl => exact h
  | step _ ih => exact hm _ _ ih
theorem awake_at {k : Nat} (hk : 60 ≤ k) : budwoodlaw11_awake.f k = some true := lift_mono (fun k => budwoodlaw11_awake.mono k) awake_true hk
end Go.Proofs.YtiphindialkmnaaDoor.X
end
section
namespace Go.Proofs.YtiphindialkmnaaDoor.X
open Go.RowKit Go.Proofs.YtiphindialkmnaaDoorW.PrintWords Go.Proofs.YtiphindialkmnaaDoorW.PrintLast Go.Proofs.YtiphindialkmnaaDoorW.PrintMore
set_option linter.unusedSimpArgs false
theorem w64 (n : Int) (h : -9223372036854775808 ≤ n ∧ n ≤ 9223372036854775807) : wrap64 n = n := by unfold wrap64; omega
theorem rdOf_nat {α : Type} (d : α) (l : List α) (i : Nat) : rdOf d l (i : Int) = l.getD i d := by simp [rdOf]
/-- texts alike from i on -/
def alike (l m : List ByteArray) (i : Nat) : Prop := ∀ j, i ≤ j → j < l.length → l.getD j ByteArray.empty = m.getD j ByteArray.empty
theorem bytes_eq_iff (a b : ByteArray) : a.toList = b.toList ↔ a = b := by
  rw [ByteArray.toList_eq, ByteArray.toList_eq]
  exact ⟨fun h => ByteArray.ext (Array.toList_inj.mp h), fun h => by rw [h]⟩
theorem alike_step {l m : List ByteArray} {i : Nat} (hi : i < l.length) : alike l m i ↔ (l.getD i ByteArray.empty = m.getD i ByteArray.empty ∧ alike l m (i + 1)) := by
  constructor
  · exact fun h => ⟨h i (Nat.le_refl _) hi, fun j hj hl => h j (by omega) hl⟩
  · rintro ⟨h0, h1⟩ j hj hl
    by_cases e : j = i
    · subst e; exact h0
    · exact h1 j (by omega) hl
theorem mn_le (a b : Int) : mn a b ≤ b ∧ mn a b ≤ a ∧ (mn a b = a ∨ mn a b = b) := by
  unfold mn
  split <;> omega
def tot (L : List Int) (i : Nat) : Nat → Int
  | 0 => 0
  | d + 1 => rd L (i : Int) + tot L (i + 1) d
theorem size_l (L : List Int) (h4 : L.length = 4) (hp : ∀ j : Nat, 0 ≤ rd L (j : Int)) : ∀ (d i : Nat) (x : Int) (k : Nat), i + d = 4 → d < k → 0 ≤ x →  x ≤ 9223372036854775807 → ∃ s, budwoodref10_Size.l0 k x L (i : Int) = some s ∧ x ≤ s ∧ (s ≤ 2000 → x + tot L i d ≤ s) := by
  intro d
  induction d with
  | zero =>
    intro i x k h1 h2 h3 h5
    obtain ⟨k, rfl⟩ : ∃ k', k = k' + 1 := ⟨k - 1, by omega⟩
    refine ⟨x, ?_, by omega, by simp [tot]⟩
    simp only [budwoodref10_Size.l0]
    rw [if_neg (by omega)]
  | succ d ih =>
    intro i x k h1 h2 h3 h5
    obtain ⟨k, rfl⟩ : ∃ k', k = k' + 1 := ⟨k - 1, by omega⟩
    by_cases hx : x ≤ 65536
    · have m0 := mn_le (rd L i) 65536
      have p0 := hp i
      simp only [budwoodref10_Size.l0]
      rw [if_pos (by omega), if_pos hx, if_pos (by omega), if_pos (by omega), w64 _ (by omega), w64 _ (by omega)]
      obtain ⟨s, hs1, hs2, hs3⟩ := ih (i + 1) (x + mn (rd L i) 65536) k (by omega) (by omega) (by omega) (by omega)
      refine ⟨s, by simpa using hs1, by omega, fun h => ?_⟩
      have := hs3 h
      simp only [tot]
      omega
    · refine ⟨x, ?_, by omega, fun h => by omega⟩
      simp only [budwoodref10_Size.l0]
      rw [if_pos (by omega), if_neg hx]
theorem size_law (a0 : ByteArray) (l1 l2 : List ByteArray) (l3 l4 : List Int) (l5 : List S43) (k : Nat) (hk : 6 ≤ k) (hb : l1.length ≤ 9223372036854775807) :
    ∃ s, budwoodref10_Size.f k a0 l1 l2 l3 l4 l5 = some s ∧ (s ≤ 2000 → l1.length + l2.length + l3.length + l4.length + l5.length ≤ 2000) := by
  unfold budwoodref10_Size.f
  have hp : ∀ j : Nat, 0 ≤ rd ([(l2.length : Int), (l3.length : Int), (l4.length : Int), (l5.length : Int)] : List Int) (j : Int) := by
    intro j
    unfold rd
    simp only [Int.toNat_natCast]
    match j with
    | 0 => simp
    | 1 => simp
    | 2 => simp
    | 3 => simp
    | j + 4 => simp
  obtain ⟨s, h1, h2, h3⟩ := size_l _ rfl hp 4 0 (l1.length : Int) k rfl (by omega) (by omega) (by omega)
  refine ⟨s, h1, fun h => ?_⟩
  have := h3 h
  simp [tot, rd] at this
  omega
end Go.Proofs.YtiphindialkmnaaDoor.X
end
section
namespace Go.Proofs.YtiphindialkmnaaDoor.X
open Go.RowKit Go.Proofs.YtiphindialkmnaaDoorW.PrintWords Go.Proofs.YtiphindialkmnaaDoorW.PrintLast Go.Proofs.YtiphindialkmnaaDoorW.PrintMore
set_option linter.unusedSimpArgs false
set_option linter.unusedVariables false
def Tot {α : Type} (o : Option α) : Prop := ∃ r, o = some r
theorem Tot.some {α : Type} (r : α) : Tot (some r) := ⟨r, rfl⟩
theorem Tot.bind {α β : Type} {o : Option α} {g : α → Option β} (h : Tot o) (hg : ∀ r, Tot (g r)) : Tot (o.bind g) := by
  obtain ⟨r, rfl⟩ := h
  exact hg r
theorem Tot.ite {α : Type} {c : Prop} [Decidable c] {a b : Option α} (ha : Tot a) (hb : Tot b) : Tot (if c then a else b) := by
  split
  · exact ha
  · exact hb
theorem Tot.itep {α : Type} {c : Prop} [Decidable c] {a b : Option α} (hc : c) (ha : Tot a) : Tot (if c then a else b) := by
  rw [if_pos hc]; exact ha
theorem tot_may (a b : Int) : Tot (word_may.f a b) := by
  unfold word_may.f
  exact Tot.ite (Tot.ite (Tot.ite (Tot.some _) (Tot.some _)) (Tot.some _)) (Tot.some _)
theorem tot_mask (a : Int) (h : 0 ≤ a) : Tot (word_mask.f a) := Tot.itep h (Tot.some _)
theorem tot_Bits (x a b : Int) (ha : 0 ≤ a) (hb : 0 ≤ b) : Tot (word_Bits.f x a b) :=
  Tot.bind (tot_may _ _) (fun _ => Tot.ite (Tot.itep ha (Tot.bind (tot_mask _ hb) (fun _ => Tot.some _))) (Tot.some _))
theorem tot_With (x a b y : Int) (ha : 0 ≤ a) (hb : 0 ≤ b) : Tot (word_With.f x a b y) :=
  Tot.bind (tot_may _ _) (fun _ => Tot.ite (Tot.bind (tot_mask _ hb) (fun _ => Tot.itep ha (Tot.some _))) (Tot.some _))
theorem tot_Uses (k : Nat) (x : Int) : Tot (isa_Uses.f (k + 3) x) := by
  unfold isa_Uses.f
  simp only [isa_Uses.j0, isa_Uses.j1, isa_Uses.j2]
  repeat' first
    | exact Tot.some _
    | refine Tot.ite ?_ ?_
theorem tot_Fits (x : Int) : Tot (word_Fits.f x 21) := by
  unfold word_Fits.f
  refine Tot.ite (Tot.some _) (Tot.ite (Tot.some _) (Tot.itep (by rw [w64 _ (by omega)]; omega) (Tot.ite (Tot.some _) (Tot.some _))))
theorem tot_Check (k : Nat) (a b c d e : Int) : Tot (isa_Check.f (k + 3) a b c d e) := by
  unfold isa_Check.f isa_UsesB.f
  simp only [isa_Check.j0, isa_Check.j1, isa_Check_1.f]
  repeat' first
    | exact Tot.some _
    | exact tot_Uses _ _
    | exact tot_Fits _
    | refine Tot.ite ?_ ?_
    | refine Tot.bind ?_ (fun _ => ?_)
theorem tot_Encode (k : Nat) (a b c d e : Int) : Tot (isa_Encode.f (k + 3) a b c d e) := by
  unfold isa_Encode.f word_Cut.f
  refine Tot.bind (tot_Check _ _ _ _ _ _) (fun _ => Tot.ite (Tot.bind (Tot.ite (Tot.some _) (Tot.bind (tot_mask _ (by decide)) (fun _ => Tot.some _))) (fun _ => ?_)) (Tot.some _))
  exact Tot.bind (tot_With _ _ _ _ (by decide) (by decide)) (fun _ => Tot.bind (tot_With _ _ _ _ (by decide) (by decide)) (fun _ => Tot.bind (tot_With _ _ _ _ (by decide) (by decide)) (fun _ => Tot.some _)))
theorem tot_Signed (x : Int) : Tot (word_Signed.f x 21) := by
  unfold word_Signed.f
  exact Tot.ite (Tot.some _) (Tot.ite (Tot.some _) (Tot.itep (by rw [w64 _ (by omega)]; omega) (Tot.some _)))
theorem tot_Decode (k : Nat) (x : Int) : Tot (isa_Decode.f (k + 3) x) := by
  unfold isa_Decode.f isa_UsesB.f
  repeat' first
    | exact Tot.some _
    | exact tot_Uses _ _
    | exact tot_Encode _ _ _ _ _ _
    | exact tot_Signed _
    | exact tot_Bits _ _ _ (by decide) (by decide)
    | refine Tot.ite ?_ ?_
    | refine Tot.bind ?_ (fun _ => ?_)
/-- what the decoder answers -/
def dec (x : Int) : Int × Int × Int × Int × Int × Int := (isa_Decode.f 3 x).getD (0, 0, 0, 0, 0, 0)
theorem dec_at {k : Nat} (hk : 3 ≤ k) (x : Int) : isa_Decode.f k x = some (dec x) := by
  obtain ⟨r, hr⟩ := tot_Decode 0 x
  have : dec x = r := by unfold dec; rw [hr]; rfl
  rw [this]
  exact lift_mono (fun k => isa_Decode.mono x k) hr hk
end Go.Proofs.YtiphindialkmnaaDoor.X
end
section
namespace Go.Proofs.YtiphindialkmnaaDoor.X
open Go.RowKit Go.Proofs.YtiphindialkmnaaDoorW.PrintWords Go.Proofs.YtiphindialkmnaaDoorW.PrintLast Go.Proofs.YtiphindialkmnaaDoorW.PrintMore
set_option linter.unusedSimpArgs false
set_option linter.unusedVariables false
noncomputable instance memBA (s : ByteArray) (l : List ByteArray) : Decidable (s ∈ l) := Classical.propDecidable _
/-- the first of d places from i on that p holds of -/
def first (p : Nat → Bool) : Nat → Nat → Option Nat
  | 0, _ => none
  | d + 1, i => if p i = true then some i else first p d (i + 1)
theorem first_none {p : Nat → Bool} : ∀ {d i : Nat}, first p d i = none ↔ ∀ j, i ≤ j → j < i + d → p j = false
  | 0, i => by simp [first]; intro j h1 h2; omega
  | d + 1, i => by
    simp only [first]
    by_cases h : p i = true
    · rw [if_pos h]
      refine ⟨fun e => (by cases e), fun e => ?_⟩
      have := e i (Nat.le_refl _) (by omega)
      rw [h] at this; cases this
    · rw [if_neg h, first_none]
      constructor
      · intro e j h1 h2
        by_cases hj : j = i
        · subst hj; simpa using h
        · exact e j (by omega) (by omega)
      · exact fun e j h1 h2 => e j (by omega) (by omega)
theorem first_some {p : Nat → Bool} : ∀ {d i j : Nat}, first p d i = some j → i ≤ j ∧ j < i + d ∧ p j = true ∧ ∀ k, i ≤ k → k < j → p k = false
  | 0, i, j, h => by simp [first] at h
  | d + 1, i, j, h => by
    simp only [first] at h
    by_cases hp : p i = true
    · rw [if_pos hp] at h
      obtain rfl := Option.some.inj h
      exact ⟨Nat.le_refl _, by omega, hp, fun k h1 h2 => by omega⟩
    · rw [if_neg hp] at h
      obtain ⟨h1, h2, h3, h4⟩ := first_some h
      refine ⟨by omega, by omega, h3, fun k h5 h6 => ?_⟩
      by_cases hk : k = i
      · subst hk; simpa using hp
      · exact h4 k (by omega) h6
theorem first_congr {p q : Nat → Bool} : ∀ {d i : Nat}, (∀ j, i ≤ j → j < i + d → p j = q j) → first p d i = first q d i
  | 0, i, _ => rfl
  | d + 1, i, h => by
    simp only [first]
    rw [h i (Nat.le_refl _) (by omega), first_congr (fun j h1 h2 => h j (by omega) (by omega))]
/-- what the names' check answers -/
theorem index_range (s : ByteArray) (c : UInt8) : -1 ≤ Lib.indexByte s.data.toList c ∧ Lib.indexByte s.data.toList c < s.size := by
  refine ⟨Lib.indexByte_ge _ _, ?_⟩
  by_cases h : 0 ≤ Lib.indexByte s.data.toList c
  · obtain ⟨o, ho⟩ : ∃ o : Nat, Lib.indexByte s.data.toList c = o := ⟨(Lib.indexByte s.data.toList c).toNat, by omega⟩
    have := (Lib.indexByte_some ho).1
    have := (List.getElem?_eq_some_iff.1 this).1
    rw [ho]
    have e : s.data.toList.length = s.size := by rw [Array.length_toList]; rfl
    omega
  · have : (0 : Int) ≤ s.size := by omega
    omega
theorem tot_Cut (s : ByteArray) (hs : s.size ≤ 9223372036854775807) : Tot (strings_Cut.f s ⟨#[64]⟩) := by
  unfold strings_Cut.f stringslite_Cut.f stringslite_Index.f
  refine Tot.bind ?_ (fun _ => Tot.some _)
  have hr := index_range s 64
  have h1 : ((⟨#[64]⟩ : ByteArray).size : Int) = 1 := rfl
  show Tot ((some (Lib.indexByte s.data.toList 64)).bind _)
  simp only [Option.bind_some, h1]
  by_cases h : Lib.indexByte s.data.toList 64 ≥ 0
  · rw [if_pos h, if_pos h, if_pos (by omega), w64 _ (by omega), if_pos (by omega), if_pos (by omega)]
    exact Tot.some _
  · rw [if_neg h]
    exact Tot.some _
theorem tot_name (k : Nat) (s : ByteArray) (hs : s.size ≤ 9223372036854775807) : Tot (name_Check.f (k + 1) s) := by
  unfold name_Check.f name_Split.f
  simp only [name_Split.j0, name_Runes.f, name_isStem.f, name_version.f]
  repeat' first
    | exact Tot.some _
    | exact tot_Cut _ hs
    | refine Tot.ite ?_ ?_
    | refine Tot.bind ?_ (fun _ => ?_)
def nameE (s : ByteArray) : Int := (name_Check.f 1 s).getD 0
theorem name_at {k : Nat} (hk : 1 ≤ k) (s : ByteArray) (hs : s.size ≤ 9223372036854775807) : name_Check.f k s = some (nameE s) := by
  obtain ⟨r, hr⟩ := tot_name 0 s hs
  have : nameE s = r := by unfold nameE; rw [hr]; rfl
  rw [this]
  exact lift_mono (fun k => name_Check.mono s k) hr hk
/-- the texts' fault -/
def badName (l : List ByteArray) (i : Nat) : Bool := decide (nameE (l.getD i ByteArray.empty) ≠ 0)
noncomputable def dup (l : List ByteArray) (i : Nat) : Bool := decide (l.getD i ByteArray.empty ∈ l.take i)
theorem getD_mem {α : Type} {l : List α} {i : Nat} (d : α) (h : i < l.length) : l.getD i d ∈ l := by
  rw [List.getD_eq_getElem?_getD, List.getElem?_eq_getElem h]
  exact List.getElem_mem h
theorem texts_g (k : Nat) (hk : 1 ≤ k) (l : List ByteArray) (hs : ∀ s ∈ l, s.size ≤ 9223372036854775807) : ∀ (d i : Nat), i + d = l.length → texts.g k l d i = some (first (badName l) d i)
  | 0, i, h => by simp only [texts.g, first]; rw [if_neg (by omega)]
  | d + 1, i, h => by
    simp only [texts.g, first]
    rw [if_pos (by omega), rdOf_nat, name_at hk _ (hs _ (getD_mem _ (by omega)))]
    simp only [Option.bind_some]
    by_cases e : nameE (l.getD i ByteArray.empty) = 0
    · have eb : ¬ badName l i = true := fun h => of_decide_eq_true h e
      rw [if_pos e, if_neg eb, texts_g k hk l hs d (i + 1) (by omega)]
    · have eb : badName l i = true := decide_eq_true e
      rw [if_neg e, if_pos eb]
theorem index_law (l : List ByteArray) (s : ByteArray) (hl : l.length ≤ 2000) : ∀ (d i k : Nat), i + d = l.length → d < k → ∃ r, slices_Index_string_string.l0 k l s (l.length : Int) (i : Int) = some r ∧ (r ≥ 0 ↔ ∃ j, i ≤ j ∧ j < l.length ∧ l.getD j ByteArray.empty = s) := by
  intro d
  induction d with
  | zero =>
    intro i k h1 h2
    obtain ⟨k, rfl⟩ : ∃ k', k = k' + 1 := ⟨k - 1, by omega⟩
    simp only [slices_Index_string_string.l0]
    rw [if_neg (by omega)]
    exact ⟨_, rfl, ⟨fun h => by omega, fun ⟨j, h3, h4, _⟩ => by omega⟩⟩
  | succ d ih =>
    intro i k h1 h2
    obtain ⟨k, rfl⟩ : ∃ k', k = k' + 1 := ⟨k - 1, by omega⟩
    simp only [slices_Index_string_string.l0]
    rw [if_pos (by omega), if_pos (by omega), if_pos (by omega), rdOf_nat, w64 _ (by omega)]
    simp only [bytes_eq_iff]
    by_cases e : s = l.getD i ByteArray.empty
    · rw [if_pos e]
      exact ⟨_, rfl, ⟨fun _ => ⟨i, Nat.le_refl _, by omega, e.symm⟩, fun _ => by omega⟩⟩
    · rw [if_neg e]
      obtain ⟨r, hr1, hr2⟩ := ih (i + 1) k (by omega) (by omega)
      refine ⟨r, by simpa using hr1, ?_⟩
      rw [hr2]
      constructor
      · rintro ⟨j, h3, h4, h5⟩; exact ⟨j, by omega, h4, h5⟩
      · rintro ⟨j, h3, h4, h5⟩
        by_cases hj : j = i
        · subst hj; exact absurd h5.symm e
        · exact ⟨j, by omega, h4, h5⟩
theorem contains_law (l : List ByteArray) (s : ByteArray) (hl : l.length ≤ 2000) (k : Nat) (hk : l.length < k) : slices_Contains_string_string.f k l s = some (decide (s ∈ l)) := by
  unfold slices_Contains_string_string.f slices_Index_string_string.f
  obtain ⟨r, h1, h2⟩ := index_law l s hl l.length 0 k (by omega) hk
  have h1 : slices_Index_string_string.l0 k l s (l.length : Int) 0 = some r := h1
  rw [h1]
  simp only [Option.bind_some, Option.some.injEq]
  rw [Bool.eq_iff_iff, decide_eq_true_iff, h2, decide_eq_true_iff]
  constructor
  · rintro ⟨j, _, hj, rfl⟩; exact getD_mem _ hj
  · intro hm
    obtain ⟨j, hj, e⟩ := List.getElem_of_mem hm
    exact ⟨j, Nat.zero_le _, hj, by rw [List.getD_eq_getElem?_getD, List.getElem?_eq_getElem hj, e]; rfl⟩
def optI (o : Option Nat) : Int := match o with | some i => i | none => -1
theorem repeated_l (l : List ByteArray) (hl : l.length ≤ 2000) : ∀ (d i k : Nat), i + d = l.length → d + l.length < k → valid_repeated.l0 k l l (l.length : Int) (i : Int) = some (optI (first (dup l) d i)) := by
  intro d
  induction d with
  | zero =>
    intro i k h1 h2
    obtain ⟨k, rfl⟩ : ∃ k', k = k' + 1 := ⟨k - 1, by omega⟩
    simp only [valid_repeated.l0, first]
    rw [if_neg (by omega)]
    rfl
  | succ d ih =>
    intro i k h1 h2
    obtain ⟨k, rfl⟩ : ∃ k', k = k' + 1 := ⟨k - 1, by omega⟩
    simp only [valid_repeated.l0, first]
    rw [if_pos (by omega), if_pos (by omega), if_pos (by omega), if_pos (by omega), rdOf_nat, w64 _ (by omega)]
    simp only [Int.toNat_natCast]
    rw [contains_law _ _ (by rw [List.length_take]; omega) k (by rw [List.length_take]; omega)]
    simp only [Option.bind_some]
    by_cases e : dup l i = true
    · rw [if_pos e]
      unfold dup at e
      rw [if_pos e]
      rfl
    · rw [if_neg e]
      unfold dup at e
      rw [if_neg e]
      exact ih (i + 1) k (by omega) (by omega)
theorem repeated_law (l : List ByteArray) (hl : l.length ≤ 2000) (k : Nat) (hk : 2 * l.length < k) : valid_repeated.f k l = some (optI (first (dup l) l.length 0)) :=
  repeated_l l hl l.length 0 k (by omega) (by omega)
noncomputable def vTexts (a0 : ByteArray) (l1 l2 : List ByteArray) : Int × Int :=
  match first (badName (a0 :: l1)) (l1.length + 1) 0 with
  | some i => (2, (i : Int))
  | none => match first (badName l2) l2.length 0 with
    | some i => (2, 9 + (i : Int))
    | none => match first (dup l1) l1.length 0 with
      | some i => (3, (i : Int))
      | none => match first (dup l2) l2.length 0 with
        | some i => (3, 8 + (i : Int))
        | none => (0, 0)
theorem texts_law (k : Nat) (a0 : ByteArray) (l1 l2 : List ByteArray) (l3 l4 : List Int) (l5 : List S43) (h0 : a0.size ≤ 9223372036854775807) (hs1 : ∀ s ∈ l1, s.size ≤ 9223372036854775807) (hs2 : ∀ s ∈ l2, s.size ≤ 9223372036854775807) (hl1 : l1.length ≤ 1000) (hl2 : l2.length ≤ 1000) (hk : 2001 ≤ k) :
    valid_texts.f k a0 l1 l2 l3 l4 l5 = some (vTexts a0 l1 l2) := by
  unfold valid_texts.f vTexts
  rw [if_pos ⟨hl1, hl2⟩, texts_g k (by omega) (a0 :: l1) (fun s hs => by
    rcases List.mem_cons.1 hs with rfl | hs
    · exact h0
    · exact hs1 s hs) (l1.length + 1) 0 (by simp), texts_g k (by omega) l2 hs2 l2.length 0 (by omega), repeated_law l1 (by omega) k (by omega), repeated_law l2 (by omega) k (by omega)]
  simp only [Option.bind_some]
  cases first (badName (a0 :: l1)) (l1.length + 1) 0 with
  | some i => rfl
  | none =>
    simp only
    cases first (badName l2) l2.length 0 with
    | some i => rfl
    | none =>
      simp only
      cases h1 : first (dup l1) l1.length 0 with
      | some i =>
        simp only
        rw [if_pos (show (0 : Int) ≤ optI (some i) from Int.natCast_nonneg i)]
        rfl
      | none =>
        simp only
        rw [if_neg (show ¬ (0 : Int) ≤ optI none by decide)]
        cases h2 : first (dup l2) l2.length 0 with
        | some i =>
          have := first_some h2
          simp only
          rw [if_pos (show (0 : Int) ≤ optI (some i) from Int.natCast_nonneg i), if_pos (show optI (some i) ≤ 100000 by show (i : Int) ≤ 100000; omega)]
          rfl
        | none =>
          simp only
          rw [if_neg (show ¬ (0 : Int) ≤ optI none by decide)]
end Go.Proofs.YtiphindialkmnaaDoor.X
end
section
namespace Go.Proofs.YtiphindialkmnaaDoor.X
open Go.RowKit Go.Proofs.YtiphindialkmnaaDoorW.PrintWords Go.Proofs.YtiphindialkmnaaDoorW.PrintLast Go.Proofs.YtiphindialkmnaaDoorW.PrintMore
set_option linter.unusedSimpArgs false
set_option linter.unusedVariables false
theorem rd_nat (l : List Int) (i : Nat) : rd l (i : Int) = l.getD i 0 := by simp [rd]
theorem rdT_nat (l : List S43) (i : Nat) : rd_T43 l (i : Int) = l.getD i z43 := by simp [rd_T43]
/-! bounds -/
def objOk (a0 : ByteArray) (l1 l2 : List ByteArray) (l3 l4 : List Int) (l5 : List S43) : Prop :=
  l1.length ≤ 8 ∧ l2.length ≤ 16 ∧ l5.length ≤ 256 ∧ l3.length ≤ 512 ∧ l4.length ≤ 128 ∧ a0.size ≤ 96 ∧ (∀ s ∈ l1, s.size ≤ 96) ∧ (∀ s ∈ l2, s.size ≤ 96) ∧ ∀ r ∈ l5, r.f0 ≤ 7
noncomputable instance objDec (a0 : ByteArray) (l1 l2 : List ByteArray) (l3 l4 : List Int) (l5 : List S43) : Decidable (objOk a0 l1 l2 l3 l4 l5) := Classical.propDecidable _
theorem long_l (l : List ByteArray) (hl : l.length ≤ 4000) : ∀ (d i k : Nat), i + d = l.length → d < k → ∃ r, IndexFunc_long.l0 k l (l.length : Int) (i : Int) = some r ∧ (r ≥ 0 ↔ ∃ j, i ≤ j ∧ j < l.length ∧ (l.getD j ByteArray.empty).size > 96) := by
  intro d
  induction d with
  | zero =>
    intro i k h1 h2
    obtain ⟨k, rfl⟩ : ∃ k', k = k' + 1 := ⟨k - 1, by omega⟩
    simp only [IndexFunc_long.l0]
    rw [if_neg (by omega)]
    exact ⟨_, rfl, ⟨fun h => by omega, fun ⟨j, h3, h4, _⟩ => by omega⟩⟩
  | succ d ih =>
    intro i k h1 h2
    obtain ⟨k, rfl⟩ : ∃ k', k = k' + 1 := ⟨k - 1, by omega⟩
    simp only [IndexFunc_long.l0, object_Check_1.f, Option.bind_some]
    rw [if_pos (by omega), if_pos (by omega), if_pos (by omega), rdOf_nat, w64 _ (by omega)]
    by_cases e : (l.getD i ByteArray.empty).size > 96
    · rw [if_pos (decide_eq_true (by omega))]
      exact ⟨_, rfl, ⟨fun _ => ⟨i, Nat.le_refl _, by omega, e⟩, fun _ => by omega⟩⟩
    · rw [if_neg (fun h => e (by have := of_decide_eq_true h; omega))]
      obtain ⟨r, hr1, hr2⟩ := ih (i + 1) k (by omega) (by omega)
      refine ⟨r, by simpa using hr1, ?_⟩
      rw [hr2]
      constructor
      · rintro ⟨j, h3, h4, h5⟩; exact ⟨j, by omega, h4, h5⟩
      · rintro ⟨j, h3, h4, h5⟩
        by_cases hj : j = i
        · subst hj; exact absurd h5 e
        · exact ⟨j, by omega, h4, h5⟩
theorem long_law (l : List ByteArray) (hl : l.length ≤ 4000) (k : Nat) (hk : l.length < k) : ∃ b, ContainsFunc_long.f k l () = some b ∧ (b = false ↔ ∀ s ∈ l, s.size ≤ 96) := by
  unfold ContainsFunc_long.f IndexFunc_long.f
  obtain ⟨r, h1, h2⟩ := long_l l hl l.length 0 k (by omega) hk
  have h1 : IndexFunc_long.l0 k l (l.length : Int) 0 = some r := h1
  rw [h1]
  refine ⟨_, rfl, ?_⟩
  rw [decide_eq_false_iff_not, h2]
  constructor
  · intro h s hs
    obtain ⟨j, hj, e⟩ := List.getElem_of_mem hs
    by_cases hc : s.size ≤ 96
    · exact hc
    · exact absurd ⟨j, Nat.zero_le _, hj, by rw [List.getD_eq_getElem?_getD, List.getElem?_eq_getElem hj, e]; show s.size > 96; omega⟩ h
  · rintro h ⟨j, _, hj, h3⟩
    have := h _ (getD_mem ByteArray.empty hj)
    omega
theorem kind_l (l : List S43) (hl : l.length ≤ 4000) : ∀ (d i k : Nat), i + d = l.length → d < k → ∃ r, IndexFunc_kind.l0 k l (l.length : Int) (i : Int) = some r ∧ (r ≥ 0 ↔ ∃ j, i ≤ j ∧ j < l.length ∧ (l.getD j z43).f0 > 7) := by
  intro d
  induction d with
  | zero =>
    intro i k h1 h2
    obtain ⟨k, rfl⟩ : ∃ k', k = k' + 1 := ⟨k - 1, by omega⟩
    simp only [IndexFunc_kind.l0]
    rw [if_neg (by omega)]
    exact ⟨_, rfl, ⟨fun h => by omega, fun ⟨j, h3, h4, _⟩ => by omega⟩⟩
  | succ d ih =>
    intro i k h1 h2
    obtain ⟨k, rfl⟩ : ∃ k', k = k' + 1 := ⟨k - 1, by omega⟩
    simp only [IndexFunc_kind.l0, object_Check_2.f, Option.bind_some]
    rw [if_pos (by omega), if_pos (by omega), if_pos (by omega), rdT_nat, w64 _ (by omega)]
    by_cases e : (l.getD i z43).f0 > 7
    · rw [if_pos (decide_eq_true e)]
      exact ⟨_, rfl, ⟨fun _ => ⟨i, Nat.le_refl _, by omega, e⟩, fun _ => by omega⟩⟩
    · rw [if_neg (fun h => e (of_decide_eq_true h))]
      obtain ⟨r, hr1, hr2⟩ := ih (i + 1) k (by omega) (by omega)
      refine ⟨r, by simpa using hr1, ?_⟩
      rw [hr2]
      constructor
      · rintro ⟨j, h3, h4, h5⟩; exact ⟨j, by omega, h4, h5⟩
      · rintro ⟨j, h3, h4, h5⟩
        by_cases hj : j = i
        · subst hj; exact absurd h5 e
        · exact ⟨j, by omega, h4, h5⟩
theorem kind_law (l : List S43) (hl : l.length ≤ 4000) (k : Nat) (hk : l.length < k) : ∃ b, ContainsFunc_kind.f k l () = some b ∧ (b = false ↔ ∀ s ∈ l, s.f0 ≤ 7) := by
  unfold ContainsFunc_kind.f IndexFunc_kind.f
  obtain ⟨r, h1, h2⟩ := kind_l l hl l.length 0 k (by omega) hk
  have h1 : IndexFunc_kind.l0 k l (l.length : Int) 0 = some r := h1
  rw [h1]
  refine ⟨_, rfl, ?_⟩
  rw [decide_eq_false_iff_not, h2]
  constructor
  · intro h s hs
    obtain ⟨j, hj, e⟩ := List.getElem_of_mem hs
    by_cases hc : s.f0 ≤ 7
    · exact hc
    · exact absurd ⟨j, Nat.zero_le _, hj, by rw [List.getD_eq_getElem?_getD, List.getElem?_eq_getElem hj, e]; show s.f0 > 7; omega⟩ h
  · rintro h ⟨j, _, hj, h3⟩
    have := h _ (getD_mem z43 hj)
    omega
theorem object_law (k : Nat) (a0 : ByteArray) (l1 l2 : List ByteArray) (l3 l4 : List Int) (l5 : List S43) (h1 : l1.length ≤ 4000) (h2 : l2.length ≤ 4000) (h5 : l5.length ≤ 4000) (hk : 4004 ≤ k) :
    ∃ e, object_Check.f k a0 l1 l2 l3 l4 l5 = some e ∧ (e = 0 ↔ objOk a0 l1 l2 l3 l4 l5) := by
  obtain ⟨k, rfl⟩ : ∃ k', k = k' + 3 := ⟨k - 3, by omega⟩
  obtain ⟨b1, e1, i1⟩ := long_law l1 h1 (k + 1) (by omega)
  obtain ⟨b2, e2, i2⟩ := long_law l2 h2 (k + 1) (by omega)
  obtain ⟨b3, e3, i3⟩ := kind_law l5 h5 k (by omega)
  unfold object_Check.f
  simp only [object_Check.j0, object_Check.j1, object_Check.j2, object_Check_1.f, e1, e2, e3, Option.bind_some, if_true]
  unfold objOk
  rw [← i1, ← i2, ← i3]
  by_cases c1 : (l1.length : Int) > 8
  · rw [if_pos c1]; exact ⟨5, rfl, ⟨fun h => (by cases h), fun h => (by omega)⟩⟩
  rw [if_neg c1]
  by_cases c2 : (l2.length : Int) > 16
  · rw [if_pos c2]; exact ⟨5, rfl, ⟨fun h => (by cases h), fun h => (by omega)⟩⟩
  rw [if_neg c2]
  by_cases c3 : (l5.length : Int) > 256
  · rw [if_pos (decide_eq_true c3)]; exact ⟨5, rfl, ⟨fun h => (by cases h), fun h => (by omega)⟩⟩
  rw [if_neg (fun h => c3 (of_decide_eq_true h))]
  by_cases c4 : (l3.length : Int) > 512
  · rw [if_pos c4]; exact ⟨5, rfl, ⟨fun h => (by cases h), fun h => (by omega)⟩⟩
  rw [if_neg c4]
  by_cases c5 : (l4.length : Int) > 128
  · rw [if_pos (decide_eq_true c5)]; exact ⟨5, rfl, ⟨fun h => (by cases h), fun h => (by omega)⟩⟩
  rw [if_neg (fun h => c5 (of_decide_eq_true h))]
  by_cases c6 : (a0.size : Int) > 96
  · rw [if_pos (decide_eq_true c6)]; exact ⟨5, rfl, ⟨fun h => (by cases h), fun h => (by omega)⟩⟩
  rw [if_neg (fun h => c6 (of_decide_eq_true h))]
  cases b1
  case true => exact ⟨5, by simp, ⟨fun h => (by cases h), fun h => (by have := h.2.2.2.2.2.2.1; cases this)⟩⟩
  cases b2
  case true => exact ⟨5, by simp, ⟨fun h => (by cases h), fun h => (by have := h.2.2.2.2.2.2.2.1; cases this)⟩⟩
  cases b3
  case true => exact ⟨2, by simp, ⟨fun h => (by cases h), fun h => (by have := h.2.2.2.2.2.2.2.2; cases this)⟩⟩
  exact ⟨0, by simp, ⟨fun _ => ⟨by omega, by omega, by omega, by omega, by omega, by omega, rfl, rfl, rfl⟩, fun _ => rfl⟩⟩
/-! words -/
def badWord (l : List Int) (i : Nat) : Bool := decide ((dec (l.getD i 0)).2.2.2.2.2 ≠ 0 ∨ (dec (l.getD i 0)).1 = 21)
def vWords (l1 : List ByteArray) (l3 : List Int) : Int × Int :=
  if l3.length = 0 ∨ l3.length < l1.length then (4, 0) else match first (badWord l3) l3.length 0 with
    | some i => (5, (i : Int))
    | none => (0, 0)
theorem words_l (l : List Int) (hl : l.length ≤ 4000) : ∀ (d i k : Nat), i + d = l.length → d + 4 < k → valid_words.l0 k l (l.length : Int) (i : Int) = some (match first (badWord l) d i with | some j => (5, (j : Int)) | none => (0, 0)) := by
  intro d
  induction d with
  | zero =>
    intro i k h1 h2
    obtain ⟨k, rfl⟩ : ∃ k', k = k' + 1 := ⟨k - 1, by omega⟩
    simp only [valid_words.l0, first]
    rw [if_neg (by omega)]
  | succ d ih =>
    intro i k h1 h2
    obtain ⟨k, rfl⟩ : ∃ k', k = k' + 1 := ⟨k - 1, by omega⟩
    simp only [valid_words.l0, first]
    rw [if_pos (by omega), if_pos (by omega), if_pos (by omega), rd_nat, w64 _ (by omega), dec_at (by omega)]
    simp only [Option.bind_some]
    by_cases e : (dec (l.getD i 0)).2.2.2.2.2 = 0
    · rw [if_pos e]
      by_cases e2 : (dec (l.getD i 0)).1 = 21
      · have eb : badWord l i = true := decide_eq_true (.inr e2)
        rw [if_pos e2, if_pos eb]
      · have eb : ¬ badWord l i = true := fun h => (of_decide_eq_true h).elim (fun h => h e) e2
        rw [if_neg e2, if_neg eb]
        exact ih (i + 1) k (by omega) (by omega)
    · have eb : badWord l i = true := decide_eq_true (.inl e)
      rw [if_neg e, if_pos eb]
theorem words_law (k : Nat) (a0 : ByteArray) (l1 l2 : List ByteArray) (l3 l4 : List Int) (l5 : List S43) (hl : l3.length ≤ 4000) (hk : l3.length + 6 ≤ k) : valid_words.f k a0 l1 l2 l3 l4 l5 = some (vWords l1 l3) := by
  obtain ⟨k, rfl⟩ : ∃ k', k = k' + 1 := ⟨k - 1, by omega⟩
  unfold valid_words.f vWords
  simp only [valid_words.j0, if_true]
  have h0 := words_l l3 hl l3.length 0 k (by omega) (by omega)
  have h0 : valid_words.l0 k l3 (l3.length : Int) 0 = _ := h0
  rw [h0]
  by_cases c : (l3.length : Int) = 0
  · rw [if_pos c, if_pos (.inl (by omega))]
  · rw [if_neg c]
    by_cases c2 : (l3.length : Int) < l1.length
    · rw [if_pos (decide_eq_true c2), if_pos (.inr (by omega))]
    · rw [if_neg (fun h => c2 (of_decide_eq_true h)), if_neg (by omega)]
/-! relocations -/
def isCode (k : Int) : Bool := !(decide (k = 4) || decide (k = 5) || decide (k = 6))
def spot (r : S43) : Bool × Int := (isCode r.f0, r.f1)
theorem of_law (a b c : Int) : valid_of.f a b c = some (isCode a, b) := by
  unfold valid_of.f isCode
  by_cases h4 : a = 4
  · simp [h4]
  · by_cases h5 : a = 5
    · simp [h5]
    · simp [h4, h5]
      by_cases h6 : a = 6 <;> simp [h6]
noncomputable def badPlace (l3 l4 : List Int) (l5 : List S43) (i : Nat) : Bool :=
  decide (∃ j, j < i ∧ spot (l5.getD j z43) = spot (l5.getD i z43)) || decide ((l5.getD i z43).f1 ≥ (if isCode (l5.getD i z43).f0 = true then (l3.length : Int) else (l4.length : Int)))
theorem relA_law (l3 l4 : List Int) (l : List S43) (hw : ∀ x ∈ l, 0 ≤ x.f1 ∧ x.f1 ≤ 65535) : ∀ (d i : Nat) (s : List (Bool × Int)), i + d = l.length → (∀ x, x ∈ s ↔ ∃ j, j < i ∧ spot (l.getD j z43) = x) →
    ∃ s', relA l3 l4 l d i s = some (match first (badPlace l3 l4 l) d i with | some j => .inl (j : Int) | none => .inr s') ∧ ∀ x, x ∈ s' ↔ ∃ j, j < l.length ∧ spot (l.getD j z43) = x := by
  intro d
  induction d with
  | zero =>
    intro i s h hs
    refine ⟨s, rfl, ?_⟩
    have : i = l.length := by omega
    subst this
    exact hs
  | succ d ih =>
    intro i s h hs
    have hi : i < l.length := by omega
    have hwi := hw _ (getD_mem z43 hi)
    simp only [relA, first]
    rw [if_pos hi, rdT_nat, of_law]
    simp only [Option.bind_some]
    rw [if_pos ⟨hwi.1, hwi.2, hwi.1, hwi.2⟩]
    have hmem : (isCode (l.getD i z43).f0, (l.getD i z43).f1) ∈ s ↔ ∃ j, j < i ∧ spot (l.getD j z43) = spot (l.getD i z43) := hs _
    have hnext : ∀ x, x ∈ (isCode (l.getD i z43).f0, (l.getD i z43).f1) :: s ↔ ∃ j, j < i + 1 ∧ spot (l.getD j z43) = x := by
      intro x
      rw [List.mem_cons, hs]
      constructor
      · rintro (rfl | ⟨j, h1, h2⟩)
        · exact ⟨i, by omega, rfl⟩
        · exact ⟨j, by omega, h2⟩
      · rintro ⟨j, h1, h2⟩
        by_cases hj : j = i
        · subst hj; exact .inl h2.symm
        · exact .inr ⟨j, by omega, h2⟩
    obtain ⟨s', hs1, hs2⟩ := ih (i + 1) _ (by omega) hnext
    refine ⟨s', ?_, hs2⟩
    by_cases c1 : (isCode (l.getD i z43).f0, (l.getD i z43).f1) ∈ s
    · have eb : badPlace l3 l4 l i = true := by
        unfold badPlace
        rw [Bool.or_eq_true]
        exact .inl (decide_eq_true (hmem.1 c1))
      rw [if_pos c1, if_pos eb]
    · rw [if_neg c1]
      by_cases c2 : (l.getD i z43).f1 ≥ (if isCode (l.getD i z43).f0 = true then (l3.length : Int) else (l4.length : Int))
      · have eb : badPlace l3 l4 l i = true := by
          unfold badPlace
          rw [Bool.or_eq_true]
          exact .inr (decide_eq_true c2)
        rw [if_pos c2, if_pos eb]
      · have eb : ¬ badPlace l3 l4 l i = true := by
          unfold badPlace
          rw [Bool.or_eq_true]
          rintro (h | h)
          · exact c1 (hmem.2 (of_decide_eq_true h))
          · exact c2 (of_decide_eq_true h)
        rw [if_neg c2, if_neg eb]
        exact hs1
theorem idxF_law (p : S43 → Option Bool) (q : S43 → Bool) (l : List S43) (h : ∀ x ∈ l, p x = some (q x)) : ∀ (d i : Nat), i + d = l.length → idxF p l d i = some (optI (first (fun i => q (l.getD i z43)) d i))
  | 0, i, _ => rfl
  | d + 1, i, hd => by
    simp only [idxF, first]
    rw [if_pos (by omega), rdT_nat, h _ (getD_mem z43 (by omega))]
    simp only [Option.bind_some]
    by_cases c : q (l.getD i z43) = true
    · rw [if_pos c, if_pos c]; rfl
    · rw [if_neg c, if_neg c]
      exact idxF_law p q l h d (i + 1) (by omega)
def isZ (x : Int × Int × Int × Int × Int × Int) : Bool := x.1 == 17 && (x.2.1 == 0 && (x.2.2.1 == 0 && (x.2.2.2.1 == 0 && x.2.2.2.2.1 == 0)))
def fits (l3 l4 : List Int) (r : S43) : Bool :=
  if isCode r.f0 = true then (if r.f0 = 0 ∨ r.f0 = 7 then isZ (dec (rd l3 r.f1)) else decide ((dec (rd l3 r.f1)).1 = 2) && ((dec (rd l3 r.f1)).2.2.2.2.1 == 0)) else rd l4 r.f1 == 0
theorem fits_law (k : Nat) (hk : 3 ≤ k) (a0 : ByteArray) (l1 l2 : List ByteArray) (l3 l4 : List Int) (l5 : List S43) (r : S43) (h0 : 0 ≤ r.f1) (h1 : r.f1 < (if isCode r.f0 = true then (l3.length : Int) else (l4.length : Int))) :
    valid_fits.f k a0 l1 l2 l3 l4 l5 r.f0 r.f1 r.f2 = some (fits l3 l4 r) := by
  unfold valid_fits.f fits
  rw [of_law]
  simp only [Option.bind_some]
  by_cases c : isCode r.f0 = true
  · rw [if_pos c, if_pos h0, if_pos (by rw [if_pos c] at h1; exact h1), if_pos c, dec_at hk]
    simp only [Option.bind_some]
    by_cases e0 : r.f0 = 0
    · rw [if_pos e0, if_pos (.inl e0)]; rfl
    · rw [if_neg e0]
      by_cases e7 : r.f0 = 7
      · rw [if_pos e7, if_pos (.inr e7)]; rfl
      · rw [if_neg e7, if_neg (show ¬ (r.f0 = 0 ∨ r.f0 = 7) by omega)]
        by_cases e2 : (dec (rd l3 r.f1)).1 = 2
        · rw [if_pos e2]; simp [e2]
        · rw [if_neg e2]; simp [e2]
  · rw [if_neg c, if_pos h0, if_pos (by rw [if_neg c] at h1; exact h1), if_neg c]
def there (l2 : List ByteArray) (l3 l4 : List Int) (r : S43) : Bool :=
  decide (r.f2 < (if r.f0 = 0 ∨ r.f0 = 1 ∨ r.f0 = 4 then (l2.length : Int) else if r.f0 = 2 ∨ r.f0 = 5 then (l4.length : Int) else (l3.length : Int)))
theorem there_law (k : Nat) (hk : 1 ≤ k) (a0 : ByteArray) (l1 l2 : List ByteArray) (l3 l4 : List Int) (l5 : List S43) (r : S43) (h0 : 0 ≤ r.f2 ∧ r.f2 ≤ 65535) :
    valid_there.f k a0 l1 l2 l3 l4 l5 r.f0 r.f1 r.f2 = some (there l2 l3 l4 r) := by
  obtain ⟨k, rfl⟩ : ∃ k', k = k' + 1 := ⟨k - 1, by omega⟩
  unfold valid_there.f there
  simp only [valid_there.j0, w64 r.f2 (by omega)]
  by_cases e0 : r.f0 = 0
  · simp [e0]
  by_cases e1 : r.f0 = 1
  · simp [e1]
  by_cases e4 : r.f0 = 4
  · simp [e4]
  by_cases e2 : r.f0 = 2
  · simp [e2]
  by_cases e5 : r.f0 = 5
  · simp [e5]
  simp [e0, e1, e4, e2, e5]
noncomputable def loose (l3 : List Int) (l5 : List S43) (i : Nat) : Bool := decide ((dec (l3.getD i 0)).1 = 17 ∧ ¬ ∃ j, j < l5.length ∧ spot (l5.getD j z43) = (true, (i : Int) % 65536))
theorem relD_law (k : Nat) (hk : 3 ≤ k) (l3 : List Int) (l5 : List S43) (s : List (Bool × Int)) (hs : ∀ x, x ∈ s ↔ ∃ j, j < l5.length ∧ spot (l5.getD j z43) = x) : ∀ (d i : Nat), i + d = l3.length → relD k l3 s d i = some (match first (loose l3 l5) d i with | some j => (9, (j : Int)) | none => (0, 0))
  | 0, i, _ => rfl
  | d + 1, i, hd => by
    simp only [relD, first]
    rw [if_pos (by omega), rd_nat, dec_at hk]
    simp only [Option.bind_some]
    by_cases c : (dec (l3.getD i 0)).1 = 17 ∧ ¬ (true, (i : Int) % 65536) ∈ s
    · have eb : loose l3 l5 i = true := decide_eq_true ⟨c.1, fun h => c.2 ((hs _).2 h)⟩
      rw [if_pos c, if_pos eb]
    · have eb : ¬ loose l3 l5 i = true := fun h => c ⟨(of_decide_eq_true h).1, fun hm => (of_decide_eq_true h).2 ((hs _).1 hm)⟩
      rw [if_neg c, if_neg eb]
      exact relD_law k hk l3 l5 s hs d (i + 1) (by omega)
noncomputable def vRelocs (l2 : List ByteArray) (l3 l4 : List Int) (l5 : List S43) : Int × Int :=
  match first (badPlace l3 l4 l5) l5.length 0 with
  | some i => (6, (i : Int))
  | none => match first (fun i => !fits l3 l4 (l5.getD i z43)) l5.length 0 with
    | some i => (7, (i : Int))
    | none => match first (fun i => !there l2 l3 l4 (l5.getD i z43)) l5.length 0 with
      | some i => (8, (i : Int))
      | none => match first (loose l3 l5) l3.length 0 with
        | some i => (9, (i : Int))
        | none => (0, 0)
end Go.Proofs.YtiphindialkmnaaDoor.X
end
section
namespace Go.Proofs.YtiphindialkmnaaDoor.X
open Go.RowKit Go.Proofs.YtiphindialkmnaaDoorW.PrintWords Go.Proofs.YtiphindialkmnaaDoorW.PrintLast Go.Proofs.YtiphindialkmnaaDoorW.PrintMore
set_option linter.unusedSimpArgs false
set_option linter.unusedVariables false
def wfR (x : S43) : Prop := 0 ≤ x.f0 ∧ x.f0 ≤ 255 ∧ 0 ≤ x.f1 ∧ x.f1 ≤ 65535 ∧ 0 ≤ x.f2 ∧ x.f2 ≤ 65535
theorem place_lt {l3 l4 : List Int} {l5 : List S43} (h : first (badPlace l3 l4 l5) l5.length 0 = none) {r : S43} (hr : r ∈ l5) : r.f1 < (if isCode r.f0 = true then (l3.length : Int) else (l4.length : Int)) := by
  obtain ⟨j, hj, e⟩ := List.getElem_of_mem hr
  have h1 := first_none.1 h j (Nat.zero_le _) (by omega)
  have e2 : l5.getD j z43 = r := by rw [List.getD_eq_getElem?_getD, List.getElem?_eq_getElem hj, e]; rfl
  unfold badPlace at h1
  rw [Bool.or_eq_false_iff, decide_eq_false_iff_not, decide_eq_false_iff_not, e2] at h1
  have := h1.2
  omega
theorem relocs_law (k : Nat) (hk : 3 ≤ k) (a0 : ByteArray) (l1 l2 : List ByteArray) (l3 l4 : List Int) (l5 : List S43) (hw : ∀ x ∈ l5, wfR x) : valid_relocs.f k a0 l1 l2 l3 l4 l5 = some (vRelocs l2 l3 l4 l5) := by
  unfold valid_relocs.f vRelocs
  obtain ⟨s', h1, h2⟩ := relA_law l3 l4 l5 (fun x hx => ⟨(hw x hx).2.2.1, (hw x hx).2.2.2.1⟩) l5.length 0 [] (by omega) (by intro x; simp)
  rw [h1]
  simp only [Option.bind_some]
  cases hp : first (badPlace l3 l4 l5) l5.length 0 with
  | some i => rfl
  | none =>
    simp only
    rw [idxF_law _ (fun r => !fits l3 l4 r) l5 (fun x hx => by
      rw [fits_law k hk a0 l1 l2 l3 l4 l5 x (hw x hx).2.2.1 (place_lt hp hx)]; rfl) l5.length 0 (by omega)]
    rw [idxF_law _ (fun r => !there l2 l3 l4 r) l5 (fun x hx => by
      rw [there_law k (by omega) a0 l1 l2 l3 l4 l5 x (hw x hx).2.2.2.2]; rfl) l5.length 0 (by omega)]
    simp only [Option.bind_some]
    cases hf : first (fun i => !fits l3 l4 (l5.getD i z43)) l5.length 0 with
    | some i =>
      simp only
      rw [if_pos (show optI (some i) ≥ 0 from Int.natCast_nonneg i)]
      rfl
    | none =>
      simp only
      rw [if_neg (show ¬ optI none ≥ 0 by decide)]
      cases ht : first (fun i => !there l2 l3 l4 (l5.getD i z43)) l5.length 0 with
      | some i =>
        simp only
        rw [if_pos (show optI (some i) ≥ 0 from Int.natCast_nonneg i)]
        rfl
      | none =>
        simp only
        rw [if_neg (show ¬ optI none ≥ 0 by decide)]
        exact relD_law k hk l3 l5 s' h2 l3.length 0 (by omega)
noncomputable def vModule (a0 : ByteArray) (l1 l2 : List ByteArray) (l3 l4 : List Int) (l5 : List S43) : Int × Int :=
  if objOk a0 l1 l2 l3 l4 l5 then
    (if (vTexts a0 l1 l2).1 = 0 then (if (vWords l1 l3).1 = 0 then vRelocs l2 l3 l4 l5 else vWords l1 l3) else vTexts a0 l1 l2)
  else (1, 0)
/-- what a module that came in is known to be -/
structure ModWf (a0 : ByteArray) (l1 l2 : List ByteArray) (l3 l4 : List Int) (l5 : List S43) : Prop where
  n : a0.size ≤ 9223372036854775807
  e : ∀ s ∈ l1, s.size ≤ 9223372036854775807
  i : ∀ s ∈ l2, s.size ≤ 9223372036854775807
  r : ∀ x ∈ l5, wfR x
  s : l1.length ≤ 4000 ∧ l2.length ≤ 4000 ∧ l3.length ≤ 4000 ∧ l4.length ≤ 4000 ∧ l5.length ≤ 4000
theorem module_law (k : Nat) (hk : 4010 ≤ k) {a0 : ByteArray} {l1 l2 : List ByteArray} {l3 l4 : List Int} {l5 : List S43} (h : ModWf a0 l1 l2 l3 l4 l5) : valid_Module.f k a0 l1 l2 l3 l4 l5 = some (vModule a0 l1 l2 l3 l4 l5) := by
  unfold valid_Module.f vModule
  obtain ⟨e, he, hi⟩ := object_law k a0 l1 l2 l3 l4 l5 h.s.1 h.s.2.1 h.s.2.2.2.2 (by omega)
  rw [he]
  simp only [Option.bind_some]
  by_cases ho : objOk a0 l1 l2 l3 l4 l5
  · rw [if_pos (hi.2 ho), if_pos ho, texts_law k a0 l1 l2 l3 l4 l5 h.n h.e h.i (by have := ho.1; omega) (by have := ho.2.1; omega) (by omega)]
    simp only [Option.bind_some]
    by_cases ht : (vTexts a0 l1 l2).1 = 0
    · rw [if_pos ht, if_pos ht, words_law k a0 l1 l2 l3 l4 l5 h.s.2.2.1 (by have := h.s.2.2.1; omega)]
      simp only [Option.bind_some]
      by_cases hw : (vWords l1 l3).1 = 0
      · rw [if_pos hw, if_pos hw, relocs_law k (by omega) a0 l1 l2 l3 l4 l5 h.r]
        rfl
      · rw [if_neg hw, if_neg hw]
    · rw [if_neg ht, if_neg ht]
  · rw [if_neg (fun he => ho (hi.1 he)), if_neg ho]
theorem check_law (k : Nat) (hk : 4010 ≤ k) {a0 : ByteArray} {l1 l2 : List ByteArray} {l3 l4 : List Int} {l5 : List S43} (h : ModWf a0 l1 l2 l3 l4 l5) : valid_Check.f k a0 l1 l2 l3 l4 l5 = some (if (vModule a0 l1 l2 l3 l4 l5).1 = 0 then 0 else 20) := by
  unfold valid_Check.f
  rw [module_law k hk h]
  simp only [Option.bind_some]
  split <;> rfl
/-! when nothing is wrong -/
theorem texts_ok {a0 : ByteArray} {l1 l2 : List ByteArray} : (vTexts a0 l1 l2).1 = 0 ↔ first (badName (a0 :: l1)) (l1.length + 1) 0 = none ∧ first (badName l2) l2.length 0 = none ∧ first (dup l1) l1.length 0 = none ∧ first (dup l2) l2.length 0 = none := by
  unfold vTexts
  cases first (badName (a0 :: l1)) (l1.length + 1) 0 with
  | some i => simp
  | none =>
    cases first (badName l2) l2.length 0 with
    | some i => simp
    | none =>
      cases first (dup l1) l1.length 0 with
      | some i => simp
      | none =>
        cases first (dup l2) l2.length 0 with
        | some i => simp
        | none => simp
theorem words_ok {l1 : List ByteArray} {l3 : List Int} : (vWords l1 l3).1 = 0 ↔ l3.length ≠ 0 ∧ l1.length ≤ l3.length ∧ first (badWord l3) l3.length 0 = none := by
  unfold vWords
  by_cases c : l3.length = 0 ∨ l3.length < l1.length
  · rw [if_pos c]
    constructor
    · intro h; cases h
    · intro h; omega
  · rw [if_neg c]
    cases first (badWord l3) l3.length 0 with
    | some i => simp
    | none => exact ⟨fun _ => ⟨by omega, by omega, rfl⟩, fun _ => rfl⟩
theorem relocs_ok {l2 : List ByteArray} {l3 l4 : List Int} {l5 : List S43} : (vRelocs l2 l3 l4 l5).1 = 0 ↔ first (badPlace l3 l4 l5) l5.length 0 = none ∧ first (fun i => !fits l3 l4 (l5.getD i z43)) l5.length 0 = none ∧ first (fun i => !there l2 l3 l4 (l5.getD i z43)) l5.length 0 = none ∧ first (loose l3 l5) l3.length 0 = none := by
  unfold vRelocs
  cases first (badPlace l3 l4 l5) l5.length 0 with
  | some i => simp
  | none =>
    cases first (fun i => !fits l3 l4 (l5.getD i z43)) l5.length 0 with
    | some i => simp
    | none =>
      cases first (fun i => !there l2 l3 l4 (l5.getD i z43)) l5.length 0 with
      | some i => simp
      | none =>
        cases first (loose l3 l5) l3.length 0 with
        | some i => simp
        | none => simp
theorem relocs_zero {l2 : List ByteArray} {l3 l4 : List Int} {l5 : List S43} (h : (vRelocs l2 l3 l4 l5).1 = 0) : vRelocs l2 l3 l4 l5 = (0, 0) := by
  obtain ⟨h1, h2, h3, h4⟩ := relocs_ok.1 h
  unfold vRelocs
  rw [h1, h2, h3, h4]
theorem module_ok {a0 : ByteArray} {l1 l2 : List ByteArray} {l3 l4 : List Int} {l5 : List S43} : (vModule a0 l1 l2 l3 l4 l5).1 = 0 ↔ objOk a0 l1 l2 l3 l4 l5 ∧ (vTexts a0 l1 l2).1 = 0 ∧ (vWords l1 l3).1 = 0 ∧ (vRelocs l2 l3 l4 l5).1 = 0 := by
  unfold vModule
  by_cases ho : objOk a0 l1 l2 l3 l4 l5
  · rw [if_pos ho]
    by_cases ht : (vTexts a0 l1 l2).1 = 0
    · rw [if_pos ht]
      by_cases hw : (vWords l1 l3).1 = 0
      · rw [if_pos hw]; simp [ho, ht, hw]
      · rw [if_neg hw]; simp [hw]
    · rw [if_neg ht]; simp [ht]
  · rw [if_neg ho]; simp [ho]
end Go.Proofs.YtiphindialkmnaaDoor.X
end
section
namespace Go.Proofs.YtiphindialkmnaaDoor.X
open Go.RowKit Go.Proofs.YtiphindialkmnaaDoorW.PrintWords Go.Proofs.YtiphindialkmnaaDoorW.PrintLast Go.Proofs.YtiphindialkmnaaDoorW.PrintMore
set_option linter.unusedSimpArgs false
set_option linter.unusedVariables false
theorem copy_law (a0 : ByteArray) (l1 l2 : List ByteArray) (l3 l4 : List Int) (l5 : List S43) (h1 : l1.length ≤ 4000) (h2 : l2.length ≤ 4000) (h3 : l3.length ≤ 4000) (h4 : l4.length ≤ 4000) (h5 : l5.length ≤ 4000) : budwoodref10_Copy.f a0 l1 l2 l3 l4 l5 = some (a0, l1, l2, l3, l4, l5) := by
  unfold budwoodref10_Copy.f
  simp only [Option.bind_some, List.length_nil, List.nil_append, Nat.zero_add]
  rw [if_pos (by omega), if_pos (by omega), if_pos (by omega), if_pos (by omega), if_pos (by omega)]
end Go.Proofs.YtiphindialkmnaaDoor.X
end
section
namespace Go.Proofs.YtiphindialkmnaaDoor.X
open Go.RowKit Go.Proofs.YtiphindialkmnaaDoorW.PrintWords Go.Proofs.YtiphindialkmnaaDoorW.PrintLast Go.Proofs.YtiphindialkmnaaDoorW.PrintMore
set_option linter.unusedSimpArgs false
theorem same_l (l m : List ByteArray) (hlen : l.length = m.length) (hb : l.length ≤ 9223372036854775807) : ∀ (d i k : Nat), l.length ≤ i + d → d < k → i ≤ l.length → ∃ b, budwoodref10_SameTexts.l0 k l m (i : Int) = some b ∧ (b = true ↔ alike l m i) := by
  intro d
  induction d with
  | zero =>
    intro i k h1 h2 h3
    obtain ⟨k, rfl⟩ : ∃ k', k = k' + 1 := ⟨k - 1, by omega⟩
    refine ⟨true, ?_, by simp; intro j hj hl; omega⟩
    simp only [budwoodref10_SameTexts.l0]
    rw [if_neg (by omega)]
  | succ d ih =>
    intro i k h1 h2 h3
    obtain ⟨k, rfl⟩ : ∃ k', k = k' + 1 := ⟨k - 1, by omega⟩
    by_cases hi : i < l.length
    · simp only [budwoodref10_SameTexts.l0]
      rw [if_pos (by omega), if_pos (by omega), if_pos (by omega), w64 _ (by omega)]
      simp only [rdOf_nat, bytes_eq_iff]
      by_cases e : l.getD i ByteArray.empty = m.getD i ByteArray.empty
      · rw [if_pos e]
        obtain ⟨b, hb1, hb2⟩ := ih (i + 1) k (by omega) (by omega) (by omega)
        refine ⟨b, by simpa using hb1, ?_⟩
        rw [hb2, alike_step hi]
        exact ⟨fun h => ⟨e, h⟩, fun h => h.2⟩
      · rw [if_neg e]
        exact ⟨false, rfl, ⟨fun h => (by cases h), fun h => absurd ((alike_step hi).1 h).1 e⟩⟩
    · refine ⟨true, ?_, by simp; intro j hj hl; omega⟩
      simp only [budwoodref10_SameTexts.l0]
      rw [if_neg (by omega)]
theorem same_law (l m : List ByteArray) (hb : l.length ≤ 9223372036854775807) (k : Nat) (hk : l.length + 1 ≤ k) : ∃ b, budwoodref10_SameTexts.f k l m = some b ∧ (b = true ↔ (l.length = m.length ∧ alike l m 0)) := by
  unfold budwoodref10_SameTexts.f
  by_cases h : l.length = m.length
  · rw [if_pos (by omega)]
    obtain ⟨b, h1, h2⟩ := same_l l m h hb l.length 0 k (by omega) (by omega) (by omega)
    exact ⟨b, h1, by rw [h2]; simp [h]⟩
  · rw [if_neg (by omega)]
    exact ⟨false, rfl, by simp [h]⟩
end Go.Proofs.YtiphindialkmnaaDoor.X
end
section
namespace Go.Proofs.YtiphindialkmnaaDoor.X
open Go.RowKit Go.Proofs.YtiphindialkmnaaDoorW.PrintWords Go.Proofs.YtiphindialkmnaaDoorW.PrintLast Go.Proofs.YtiphindialkmnaaDoorW.PrintMore
set_option linter.unusedSimpArgs false
set_option linter.unusedVariables false
theorem ext_getD {α : Type} {l m : List α} (d : α) (hl : l.length = m.length) (h : ∀ j, j < l.length → l.getD j d = m.getD j d) : l = m := by
  apply List.ext_getElem hl
  intro j h1 h2
  have := h j h1
  rw [List.getD_eq_getElem?_getD, List.getD_eq_getElem?_getD, List.getElem?_eq_getElem h1, List.getElem?_eq_getElem h2] at this
  exact this
theorem same_texts (l m : List ByteArray) (hb : l.length ≤ 4000) (k : Nat) (hk : 4001 ≤ k) : budwoodref10_SameTexts.f k l m = some (decide (l = m)) := by
  obtain ⟨b, h1, h2⟩ := same_law l m (by omega) k (by omega)
  rw [h1]
  congr 1
  rw [Bool.eq_iff_iff, h2, decide_eq_true_iff]
  constructor
  · rintro ⟨h3, h4⟩; exact ext_getD ByteArray.empty h3 (fun j hj => h4 j (Nat.zero_le _) hj)
  · rintro rfl; exact ⟨rfl, fun _ _ _ => rfl⟩
theorem sameW_l (l m : List Int) (hlen : l.length = m.length) (hb : l.length ≤ 4000) : ∀ (d i k : Nat), i + d = l.length → d < k → ∃ b, budwoodref10_SameWords.l0 k l m (i : Int) = some b ∧ (b = true ↔ ∀ j, i ≤ j → j < l.length → l.getD j 0 = m.getD j 0) := by
  intro d
  induction d with
  | zero =>
    intro i k h1 h2
    obtain ⟨k, rfl⟩ : ∃ k', k = k' + 1 := ⟨k - 1, by omega⟩
    simp only [budwoodref10_SameWords.l0]
    rw [if_neg (by omega)]
    exact ⟨true, rfl, by simp; intro j hj hl; omega⟩
  | succ d ih =>
    intro i k h1 h2
    obtain ⟨k, rfl⟩ : ∃ k', k = k' + 1 := ⟨k - 1, by omega⟩
    simp only [budwoodref10_SameWords.l0]
    rw [if_pos (by omega), if_pos (by omega), if_pos (by omega), w64 _ (by omega)]
    simp only [rd_nat]
    by_cases e : l.getD i 0 = m.getD i 0
    · rw [if_pos e]
      obtain ⟨b, hb1, hb2⟩ := ih (i + 1) k (by omega) (by omega)
      refine ⟨b, by simpa using hb1, ?_⟩
      rw [hb2]
      constructor
      · intro h j h3 h4
        by_cases hj : j = i
        · subst hj; exact e
        · exact h j (by omega) h4
      · exact fun h j h3 h4 => h j (by omega) h4
    · rw [if_neg e]
      exact ⟨false, rfl, ⟨fun h => (by cases h), fun h => absurd (h i (Nat.le_refl _) (by omega)) e⟩⟩
theorem same_words (l m : List Int) (hb : l.length ≤ 4000) (k : Nat) (hk : 4001 ≤ k) : budwoodref10_SameWords.f k l m = some (decide (l = m)) := by
  unfold budwoodref10_SameWords.f
  by_cases h : l.length = m.length
  · rw [if_pos (by omega)]
    obtain ⟨b, h1, h2⟩ := sameW_l l m h hb l.length 0 k (by omega) (by omega)
    have h1 : budwoodref10_SameWords.l0 k l m 0 = some b := h1
    rw [h1]
    congr 1
    rw [Bool.eq_iff_iff, h2, decide_eq_true_iff]
    constructor
    · intro h3; exact ext_getD 0 h (fun j hj => h3 j (Nat.zero_le _) hj)
    · rintro rfl; exact fun _ _ _ => rfl
  · rw [if_neg (by omega)]
    congr 1
    rw [Bool.eq_iff_iff, decide_eq_true_iff]
    exact ⟨fun h2 => (by cases h2), fun e => absurd (by rw [e]) h⟩
noncomputable instance relEq : DecidableEq S43 := fun _ _ => Classical.propDecidable _
theorem sameR_l (a0 : ByteArray) (l1 l2 : List ByteArray) (l3 l4 : List Int) (l : List S43) (b0 : ByteArray) (m1 m2 : List ByteArray) (m3 m4 : List Int) (m : List S43) (hlen : l.length = m.length) (hb : l.length ≤ 4000) : ∀ (d i k : Nat), i + d = l.length → d < k → ∃ b, budwoodref10_Same.l0 k (i : Int) a0 l1 l2 l3 l4 l b0 m1 m2 m3 m4 m = some b ∧ (b = true ↔ ∀ j, i ≤ j → j < l.length → l.getD j z43 = m.getD j z43) := by
  intro d
  induction d with
  | zero =>
    intro i k h1 h2
    obtain ⟨k, rfl⟩ : ∃ k', k = k' + 1 := ⟨k - 1, by omega⟩
    simp only [budwoodref10_Same.l0]
    rw [if_neg (by omega)]
    exact ⟨true, rfl, by simp; intro j hj hl; omega⟩
  | succ d ih =>
    intro i k h1 h2
    obtain ⟨k, rfl⟩ : ∃ k', k = k' + 1 := ⟨k - 1, by omega⟩
    simp only [budwoodref10_Same.l0]
    rw [if_pos (by omega), if_pos (by omega), if_pos (by omega), w64 _ (by omega)]
    simp only [rdT_nat]
    have key : (!((l.getD i z43).f0 == (m.getD i z43).f0) || (!((l.getD i z43).f1 == (m.getD i z43).f1) || !((l.getD i z43).f2 == (m.getD i z43).f2))) = true ↔ ¬ l.getD i z43 = m.getD i z43 := by
      generalize l.getD i z43 = x
      generalize m.getD i z43 = y
      obtain ⟨x0, x1, x2⟩ := x
      obtain ⟨y0, y1, y2⟩ := y
      simp only [S43.mk.injEq, Bool.or_eq_true, Bool.not_eq_true', beq_eq_false_iff_ne, ne_eq]
      omega
    by_cases e : l.getD i z43 = m.getD i z43
    · rw [if_neg (fun h => key.1 h e)]
      obtain ⟨b, hb1, hb2⟩ := ih (i + 1) k (by omega) (by omega)
      refine ⟨b, by simpa using hb1, ?_⟩
      rw [hb2]
      constructor
      · intro h j h3 h4
        by_cases hj : j = i
        · subst hj; exact e
        · exact h j (by omega) h4
      · exact fun h j h3 h4 => h j (by omega) h4
    · rw [if_pos (key.2 e)]
      exact ⟨false, rfl, ⟨fun h => (by cases h), fun h => absurd (h i (Nat.le_refl _) (by omega)) e⟩⟩
theorem same_mod (a0 : ByteArray) (l1 l2 : List ByteArray) (l3 l4 : List Int) (l5 : List S43) (b0 : ByteArray) (m1 m2 : List ByteArray) (m3 m4 : List Int) (m5 : List S43) (h1 : l1.length ≤ 4000) (h2 : l2.length ≤ 4000) (h3 : l3.length ≤ 4000) (h4 : l4.length ≤ 4000) (h5 : l5.length ≤ 4000) (k : Nat) (hk : 4003 ≤ k) :
    ∃ b, budwoodref10_Same.f k a0 l1 l2 l3 l4 l5 b0 m1 m2 m3 m4 m5 = some b ∧ (b = true ↔ (a0 = b0 ∧ l1 = m1 ∧ l2 = m2 ∧ l3 = m3 ∧ l4 = m4 ∧ l5 = m5)) := by
  obtain ⟨k, rfl⟩ : ∃ k', k = k' + 1 := ⟨k - 1, by omega⟩
  have hf : budwoodref10_Same.j0 (k + 1) true a0 l1 l2 l3 l4 l5 b0 m1 m2 m3 m4 m5 = some false := rfl
  unfold budwoodref10_Same.f
  rw [same_texts l1 m1 h1 _ (by omega), same_texts l2 m2 h2 _ (by omega), same_words l3 m3 h3 _ (by omega), same_words l4 m4 h4 _ (by omega)]
  simp only [Option.bind_some, hf, bytes_eq_iff, decide_eq_true_eq]
  by_cases e0 : a0 = b0
  case neg => rw [if_neg e0]; exact ⟨false, rfl, ⟨fun h => (by cases h), fun h => absurd h.1 e0⟩⟩
  rw [if_pos e0]
  by_cases e1 : l1 = m1
  case neg => rw [if_neg e1]; exact ⟨false, rfl, ⟨fun h => (by cases h), fun h => absurd h.2.1 e1⟩⟩
  rw [if_pos e1]
  by_cases e2 : l2 = m2
  case neg => rw [if_neg e2]; exact ⟨false, rfl, ⟨fun h => (by cases h), fun h => absurd h.2.2.1 e2⟩⟩
  rw [if_pos e2]
  by_cases e3 : l3 = m3
  case neg => rw [if_neg e3]; exact ⟨false, rfl, ⟨fun h => (by cases h), fun h => absurd h.2.2.2.1 e3⟩⟩
  rw [if_pos e3]
  by_cases e4 : l4 = m4
  case neg => rw [if_neg e4]; exact ⟨false, rfl, ⟨fun h => (by cases h), fun h => absurd h.2.2.2.2.1 e4⟩⟩
  rw [if_pos e4]
  simp only [budwoodref10_Same.j0]
  by_cases e5 : l5.length = m5.length
  · rw [if_neg (by simp [e5])]
    obtain ⟨b, hb1, hb2⟩ := sameR_l a0 l1 l2 l3 l4 l5 b0 m1 m2 m3 m4 m5 e5 h5 l5.length 0 k (by omega) (by omega)
    refine ⟨b, hb1, ?_⟩
    rw [hb2]
    constructor
    · intro h; exact ⟨e0, e1, e2, e3, e4, ext_getD z43 e5 (fun j hj => h j (Nat.zero_le _) hj)⟩
    · rintro ⟨_, _, _, _, _, rfl⟩; exact fun _ _ _ => rfl
  · rw [if_pos (by simp; omega)]
    exact ⟨false, rfl, ⟨fun h => (by cases h), fun h => absurd (by rw [h.2.2.2.2.2]) e5⟩⟩
end Go.Proofs.YtiphindialkmnaaDoor.X
end
