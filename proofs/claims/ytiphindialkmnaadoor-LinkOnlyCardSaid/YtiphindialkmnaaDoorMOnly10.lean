/- Texts that the proof rests on, part 10. -/
import Derived.Lib.SmallJoins
import Derived.Maps.OwnOps
import Derived.Maps.Views
import Derived.Test.YtiphindialkmnaaDoorMOnly9
section
namespace Go.Proofs.YtiphindialkmnaaDoor.X
open Go.RowKit Go.Lib Go.Maps Go.Joins Go.Proofs.YtiphindialkmnaaDoorW.PrintWords Go.Proofs.YtiphindialkmnaaDoorW.PrintLast Go.Proofs.YtiphindialkmnaaDoorW.PrintMore
set_option linter.unusedVariables false
set_option linter.unusedSimpArgs false
set_option maxRecDepth 100000

def idxF (p : S43 → Option Bool) (l : List S43) : Nat → Nat → Option Int
  | 0, _ => some (-1)
  | d + 1, i => if i < l.length then (p (rd_T43 l i)).bind fun b => if b = true then some (i : Int) else idxF p l d (i + 1) else some (-1)
set_option maxRecDepth 100000 in
theorem relocs79.calls (k : Nat) (a0 : ByteArray) (A1 : Option Addr) (c1 : Nat) (l1 : List ByteArray) (A2 : Option Addr) (c2 : Nat) (l2 : List ByteArray) (A3 : Option Addr) (c3 : Nat) (l3 : List Int) (A4 : Option Addr) (c4 : Nat) (l4 : List Int) (A5 : Option Addr) (c5 : Nat) (l5 : List S43) (gb : Nat) (f0 f1 f2 : Int) (r : Bool) (w : World)
    (hb : w.heap[gb]? = some (.cells #[.string a0, .slice A1 l1.length c1, .slice A2 l2.length c2, .slice A3 l3.length c3, .slice A4 l4.length c4, .slice A5 l5.length c5] 26 (0, 0)))
    (hr1 : Kd.C Kd.string w A1 l1.length l1) (hc1 : l1.length ≤ c1) (hr2 : Kd.C Kd.string w A2 l2.length l2) (hc2 : l2.length ≤ c2) (hr3 : Kd.C (Kd.int .u32) w A3 l3.length l3) (hc3 : l3.length ≤ c3) (hr4 : Kd.C (Kd.int .u32) w A4 l4.length l4) (hc4 : l4.length ≤ c4) (hr5 : Kd.C k43 w A5 l5.length l5) (hc5 : l5.length ≤ c5)
    (h : valid_fits.f k a0 l1 l2 l3 l4 l5 f0 f1 f2 = some r) :
    Calls Tryd.prog 79 #[.agg #[.int .u8 f0, .int .u16 f1, .int .u16 f2], .pointer (some ⟨gb, 0, none⟩)] w fun e w' => e = .returned (.bool (!r)) ∧ Below w.heap.size w w' := by
  have hz0 : w.cell? ⟨gb, 0, none⟩ = some (.string a0) := (blk_cell hb 0).trans rfl
  have hz1 : w.cell? ⟨gb, 1, none⟩ = some (.slice A1 l1.length c1) := (blk_cell hb 1).trans rfl
  have hz2 : w.cell? ⟨gb, 2, none⟩ = some (.slice A2 l2.length c2) := (blk_cell hb 2).trans rfl
  have hz3 : w.cell? ⟨gb, 3, none⟩ = some (.slice A3 l3.length c3) := (blk_cell hb 3).trans rfl
  have hz4 : w.cell? ⟨gb, 4, none⟩ = some (.slice A4 l4.length c4) := (blk_cell hb 4).trans rfl
  have hz5 : w.cell? ⟨gb, 5, none⟩ = some (.slice A5 l5.length c5) := (blk_cell hb 5).trans rfl
  have hlt : gb < w.heap.size := blk_lt hb
  have H := Aside0.mk h
  have HB := Aside0.mk (Below.refl w.heap.size w)
  clear h hb
  go_enter Tryd.func79, Tryd.ntmps79
  go_wp2_with fail
  have HA := Aside0.mk (below_alloc HB.out (.cells #[.int .u8 f0, .int .u16 f1, .int .u16 f2] 43))
  refine (valid_fits.calls k a0 _ _ l1 _ _ l2 _ _ l3 _ _ l4 _ _ l5 f0 f1 f2 r _ (Kd.C_below hr1 HA.out) hc1 (Kd.C_below hr2 HA.out) hc2 (Kd.C_below hr3 HA.out) hc3 (Kd.C_below hr4 HA.out) hc4 (Kd.C_below hr5 HA.out) hc5 H.out).mono ?_
  rintro e w1 ⟨rfl, hb1⟩
  have HB1 := Aside0.mk (below_step HA.out hb1)
  clear hb1
  go_wp2
  go_ret
  exact ⟨rfl, HB1.out⟩
set_option maxRecDepth 100000 in
theorem IndexFunc79.calls (k : Nat) (a0 : ByteArray) (A1 : Option Addr) (c1 : Nat) (l1 : List ByteArray) (A2 : Option Addr) (c2 : Nat) (l2 : List ByteArray) (A3 : Option Addr) (c3 : Nat) (l3 : List Int) (A4 : Option Addr) (c4 : Nat) (l4 : List Int) (A5 : Option Addr) (c5 : Nat) (l5 : List S43) (gb : Nat) (r : Int) (w : World)
    (hb : w.heap[gb]? = some (.cells #[.string a0, .slice A1 l1.length c1, .slice A2 l2.length c2, .slice A3 l3.length c3, .slice A4 l4.length c4, .slice A5 l5.length c5] 26 (0, 0)))
    (hr1 : Kd.C Kd.string w A1 l1.length l1) (hc1 : l1.length ≤ c1) (hr2 : Kd.C Kd.string w A2 l2.length l2) (hc2 : l2.length ≤ c2) (hr3 : Kd.C (Kd.int .u32) w A3 l3.length l3) (hc3 : l3.length ≤ c3) (hr4 : Kd.C (Kd.int .u32) w A4 l4.length l4) (hc4 : l4.length ≤ c4) (hr5 : Kd.C k43 w A5 l5.length l5) (hc5 : l5.length ≤ c5)
    (h : idxF (fun r => (valid_fits.f k a0 l1 l2 l3 l4 l5 r.f0 r.f1 r.f2).map (!·)) l5 l5.length 0 = some r) :
    Calls Tryd.prog 78 #[.slice A5 l5.length c5, .func (.func 79) #[] #[.pointer (some ⟨gb, 0, none⟩)]] w fun e w' => e = .returned (.int .i64 r) ∧ Below w.heap.size w w' := by
  have H := Aside0.mk h
  have HK := Aside0.mk hb
  have HM := Aside0.mk (show l5.length ≤ 9223372036854775807 from hr5.2.1)
  clear h hb
  go_enter Tryd.func78, Tryd.ntmps78
  go_wp2
  go_loopw [8] (fun n wr => ∃ (i d : Nat), n = .int .i64 i ∧ i ≤ l5.length ∧ Aside0 (idxF (fun r => (valid_fits.f k a0 l1 l2 l3 l4 l5 r.f0 r.f1 r.f2).map (!·)) l5 d i = some r) ∧ l5.length ≤ i + d ∧ Aside0 (Below w.heap.size w wr)) (fun n _ => l5.length - (RowKit.intOf n).toNat)
  case atStart => exact ⟨0, l5.length, rfl, Nat.zero_le _, H, by omega, ⟨Below.refl _ _⟩⟩
  case round =>
    obtain ⟨i, d, rfl, hi, hI, hd, HB⟩ := hrel
    have hlm := HM.out
    by_cases hlt : i < l5.length
    · have HC := Aside0.mk (Kd.C_below hr5 HB.out)
      obtain ⟨ad, e1, hx0, hx1, hx2⟩ := at_T43 HC.out (i : Int) (by omega) (by omega)
      simp only [Int.toNat_natCast] at hx0 hx1 hx2
      have hd1 : decide ((i : Int) < (l5.length : Int)) = true := decide_eq_true (by omega)
      cases d with
      | zero => omega
      | succ d =>
      have hI := hI.out
      simp only [idxF, if_pos hlt] at hI
      obtain ⟨b, hb0, hb1⟩ := Option.bind_eq_some_iff.1 hI
      obtain ⟨b', hb2, rfl⟩ := Option.map_eq_some_iff.1 hb0
      have HF := Aside0.mk hb2
      have HI := Aside0.mk hb1
      clear hI hb0 hb1 hb2
      cases e1
      go_wp2_with fail
      refine (relocs79.calls k a0 _ c1 l1 _ c2 l2 _ c3 l3 _ c4 l4 _ c5 l5 gb _ _ _ b' _ (blk_below HK.out HB.out) (Kd.C_below hr1 HB.out) hc1 (Kd.C_below hr2 HB.out) hc2 (Kd.C_below hr3 HB.out) hc3 (Kd.C_below hr4 HB.out) hc4 (Kd.C_below hr5 HB.out) hc5 HF.out).mono ?_
      rintro e w1 ⟨rfl, hb1⟩
      have HB1 := Aside0.mk (below_step HB.out hb1)
      clear hb1 hx0 hx1 hx2
      cases b' with
      | false =>
        have HE := HI.out
        simp only [Bool.not_false, if_true] at HE
        obtain rfl := Option.some.inj HE
        clear HE HI
        go_wp2
        go_ret
        exact ⟨rfl, HB1.out⟩
      | true =>
        have HE := HI.out
        simp only [Bool.not_true, Bool.false_eq_true, if_false] at HE
        have HE := Aside0.mk HE
        clear HI
        go_wp2
        go_roundw
        case rel => exact ⟨i + 1, d, by go_num, by omega, HE, by omega, HB1⟩
        case measure => simp [RowKit.intOf]; omega
    · have hd1 : decide ((i : Int) < (l5.length : Int)) = false := decide_eq_false (by omega)
      have hI := hI.out
      have hE : some (-1) = some r := by
        rw [← hI]
        cases d with
        | zero => rfl
        | succ d => simp only [idxF, if_neg hlt]
      obtain rfl := Option.some.inj hE
      clear hE hI
      go_wp2
      go_ret
      exact ⟨rfl, HB.out⟩
set_option maxRecDepth 100000 in
theorem relocs81.calls (k : Nat) (a0 : ByteArray) (A1 : Option Addr) (c1 : Nat) (l1 : List ByteArray) (A2 : Option Addr) (c2 : Nat) (l2 : List ByteArray) (A3 : Option Addr) (c3 : Nat) (l3 : List Int) (A4 : Option Addr) (c4 : Nat) (l4 : List Int) (A5 : Option Addr) (c5 : Nat) (l5 : List S43) (gb : Nat) (f0 f1 f2 : Int) (r : Bool) (w : World)
    (hb : w.heap[gb]? = some (.cells #[.string a0, .slice A1 l1.length c1, .slice A2 l2.length c2, .slice A3 l3.length c3, .slice A4 l4.length c4, .slice A5 l5.length c5] 26 (0, 0)))
    (hr1 : Kd.C Kd.string w A1 l1.length l1) (hc1 : l1.length ≤ c1) (hr2 : Kd.C Kd.string w A2 l2.length l2) (hc2 : l2.length ≤ c2) (hr3 : Kd.C (Kd.int .u32) w A3 l3.length l3) (hc3 : l3.length ≤ c3) (hr4 : Kd.C (Kd.int .u32) w A4 l4.length l4) (hc4 : l4.length ≤ c4) (hr5 : Kd.C k43 w A5 l5.length l5) (hc5 : l5.length ≤ c5)
    (h : valid_there.f k a0 l1 l2 l3 l4 l5 f0 f1 f2 = some r) :
    Calls Tryd.prog 81 #[.agg #[.int .u8 f0, .int .u16 f1, .int .u16 f2], .pointer (some ⟨gb, 0, none⟩)] w fun e w' => e = .returned (.bool (!r)) ∧ Below w.heap.size w w' := by
  have hz0 : w.cell? ⟨gb, 0, none⟩ = some (.string a0) := (blk_cell hb 0).trans rfl
  have hz1 : w.cell? ⟨gb, 1, none⟩ = some (.slice A1 l1.length c1) := (blk_cell hb 1).trans rfl
  have hz2 : w.cell? ⟨gb, 2, none⟩ = some (.slice A2 l2.length c2) := (blk_cell hb 2).trans rfl
  have hz3 : w.cell? ⟨gb, 3, none⟩ = some (.slice A3 l3.length c3) := (blk_cell hb 3).trans rfl
  have hz4 : w.cell? ⟨gb, 4, none⟩ = some (.slice A4 l4.length c4) := (blk_cell hb 4).trans rfl
  have hz5 : w.cell? ⟨gb, 5, none⟩ = some (.slice A5 l5.length c5) := (blk_cell hb 5).trans rfl
  have hlt : gb < w.heap.size := blk_lt hb
  have H := Aside0.mk h
  have HB := Aside0.mk (Below.refl w.heap.size w)
  clear h hb
  go_enter Tryd.func81, Tryd.ntmps81
  go_wp2_with fail
  have HA := Aside0.mk (below_alloc HB.out (.cells #[.int .u8 f0, .int .u16 f1, .int .u16 f2] 43))
  refine (valid_there.calls k a0 _ _ l1 _ _ l2 _ _ l3 _ _ l4 _ _ l5 f0 f1 f2 r _ (Kd.C_below hr1 HA.out) hc1 (Kd.C_below hr2 HA.out) hc2 (Kd.C_below hr3 HA.out) hc3 (Kd.C_below hr4 HA.out) hc4 (Kd.C_below hr5 HA.out) hc5 H.out).mono ?_
  rintro e w1 ⟨rfl, hb1⟩
  have HB1 := Aside0.mk (below_step HA.out hb1)
  clear hb1
  go_wp2
  go_ret
  exact ⟨rfl, HB1.out⟩
set_option maxRecDepth 100000 in
theorem IndexFunc81.calls (k : Nat) (a0 : ByteArray) (A1 : Option Addr) (c1 : Nat) (l1 : List ByteArray) (A2 : Option Addr) (c2 : Nat) (l2 : List ByteArray) (A3 : Option Addr) (c3 : Nat) (l3 : List Int) (A4 : Option Addr) (c4 : Nat) (l4 : List Int) (A5 : Option Addr) (c5 : Nat) (l5 : List S43) (gb : Nat) (r : Int) (w : World)
    (hb : w.heap[gb]? = some (.cells #[.string a0, .slice A1 l1.length c1, .slice A2 l2.length c2, .slice A3 l3.length c3, .slice A4 l4.length c4, .slice A5 l5.length c5] 26 (0, 0)))
    (hr1 : Kd.C Kd.string w A1 l1.length l1) (hc1 : l1.length ≤ c1) (hr2 : Kd.C Kd.string w A2 l2.length l2) (hc2 : l2.length ≤ c2) (hr3 : Kd.C (Kd.int .u32) w A3 l3.length l3) (hc3 : l3.length ≤ c3) (hr4 : Kd.C (Kd.int .u32) w A4 l4.length l4) (hc4 : l4.length ≤ c4) (hr5 : Kd.C k43 w A5 l5.length l5) (hc5 : l5.length ≤ c5)
    (h : idxF (fun r => (valid_there.f k a0 l1 l2 l3 l4 l5 r.f0 r.f1 r.f2).map (!·)) l5 l5.length 0 = some r) :
    Calls Tryd.prog 78 #[.slice A5 l5.length c5, .func (.func 81) #[] #[.pointer (some ⟨gb, 0, none⟩)]] w fun e w' => e = .returned (.int .i64 r) ∧ Below w.heap.size w w' := by
  have H := Aside0.mk h
  have HK := Aside0.mk hb
  have HM := Aside0.mk (show l5.length ≤ 9223372036854775807 from hr5.2.1)
  clear h hb
  go_enter Tryd.func78, Tryd.ntmps78
  go_wp2
  go_loopw [8] (fun n wr => ∃ (i d : Nat), n = .int .i64 i ∧ i ≤ l5.length ∧ Aside0 (idxF (fun r => (valid_there.f k a0 l1 l2 l3 l4 l5 r.f0 r.f1 r.f2).map (!·)) l5 d i = some r) ∧ l5.length ≤ i + d ∧ Aside0 (Below w.heap.size w wr)) (fun n _ => l5.length - (RowKit.intOf n).toNat)
  case atStart => exact ⟨0, l5.length, rfl, Nat.zero_le _, H, by omega, ⟨Below.refl _ _⟩⟩
  case round =>
    obtain ⟨i, d, rfl, hi, hI, hd, HB⟩ := hrel
    have hlm := HM.out
    by_cases hlt : i < l5.length
    · have HC := Aside0.mk (Kd.C_below hr5 HB.out)
      obtain ⟨ad, e1, hx0, hx1, hx2⟩ := at_T43 HC.out (i : Int) (by omega) (by omega)
      simp only [Int.toNat_natCast] at hx0 hx1 hx2
      have hd1 : decide ((i : Int) < (l5.length : Int)) = true := decide_eq_true (by omega)
      cases d with
      | zero => omega
      | succ d =>
      have hI := hI.out
      simp only [idxF, if_pos hlt] at hI
      obtain ⟨b, hb0, hb1⟩ := Option.bind_eq_some_iff.1 hI
      obtain ⟨b', hb2, rfl⟩ := Option.map_eq_some_iff.1 hb0
      have HF := Aside0.mk hb2
      have HI := Aside0.mk hb1
      clear hI hb0 hb1 hb2
      cases e1
      go_wp2_with fail
      refine (relocs81.calls k a0 _ c1 l1 _ c2 l2 _ c3 l3 _ c4 l4 _ c5 l5 gb _ _ _ b' _ (blk_below HK.out HB.out) (Kd.C_below hr1 HB.out) hc1 (Kd.C_below hr2 HB.out) hc2 (Kd.C_below hr3 HB.out) hc3 (Kd.C_below hr4 HB.out) hc4 (Kd.C_below hr5 HB.out) hc5 HF.out).mono ?_
      rintro e w1 ⟨rfl, hb1⟩
      have HB1 := Aside0.mk (below_step HB.out hb1)
      clear hb1 hx0 hx1 hx2
      cases b' with
      | false =>
        have HE := HI.out
        simp only [Bool.not_false, if_true] at HE
        obtain rfl := Option.some.inj HE
        clear HE HI
        go_wp2
        go_ret
        exact ⟨rfl, HB1.out⟩
      | true =>
        have HE := HI.out
        simp only [Bool.not_true, Bool.false_eq_true, if_false] at HE
        have HE := Aside0.mk HE
        clear HI
        go_wp2
        go_roundw
        case rel => exact ⟨i + 1, d, by go_num, by omega, HE, by omega, HB1⟩
        case measure => simp [RowKit.intOf]; omega
    · have hd1 : decide ((i : Int) < (l5.length : Int)) = false := decide_eq_false (by omega)
      have hI := hI.out
      have hE : some (-1) = some r := by
        rw [← hI]
        cases d with
        | zero => rfl
        | succ d => simp only [idxF, if_neg hlt]
      obtain rfl := Option.some.inj hE
      clear hE hI
      go_wp2
      go_ret
      exact ⟨rfl, HB.out⟩
set_option maxRecDepth 100000 in
theorem laidOut : laidOutB Tryd.prog = true := by kernel_rfl
set_option maxRecDepth 100000 in
theorem row123 : (123 : TypeId) < Tryd.prog.types.size := of_decide_eq_true (by kernel_rfl)
theorem deep123 : Tryd.prog.keyTypeAt (Tryd.prog.types.size + 1) 123 = true := by kernel_rfl
theorem wide123 : (match Tryd.prog.underlying 123 with | some (.array _ _) | some (.struct _) => true | _ => false) = true := by kernel_rfl
set_option maxRecDepth 100000 in
theorem law123 : Keyed Tryd.prog 123 := Keyed.of_law (deep_law_laid laidOut (m := 3) (by omega) row123 (by kernel_rfl) wide123)
set_option maxRecDepth 100000 in
theorem cells123 : Tryd.prog.cellsOf 123 = 2 := by kernel_rfl
theorem formed123 (c : Bool) (n : Int) : (Value.agg #[.bool c, .int .u16 n]).formed Tryd.prog 123 = true := by
  simp [Value.formed, Tryd.underlying123, cells123]
theorem wf_u16 {n : Int} (h0 : 0 ≤ n) (h1 : n ≤ 65535) : (Lit.int .u16 n).wf = true := by
  simp [Lit.wf, IntKind.min, IntKind.max, IntKind.signed, IntKind.bits]; omega
set_option maxRecDepth 100000 in
theorem trod123 (c : Bool) (n : Int) (h0 : 0 ≤ n) (h1 : n ≤ 65535) (w : World) : DataW.Trod (fun _ => ()) Tryd.prog w 0 (fun _ => true) false 123 (.agg #[.bool c, .int .u16 n]) (.agg [.lit (.bool c), .lit (.int .u16 n)]) [] :=
  shut_agg2 (y0 := (.lit (.bool c), [])) (y1 := (.lit (.int .u16 n), [])) Tryd.underlying123 (by kernel_rfl) cells123 ⟨1, by simp [DataW.trod, Tryd.underlying4]⟩ ⟨1, by simp [DataW.trod, Tryd.underlying41, wf_u16 h0 h1]⟩
def keyL (c : Bool) (n : Int) : Lit := (DataW.agg [.lit (.bool c), .lit (.int .u16 n)] : DataW Unit).asKey
theorem keyOf123 (c : Bool) (n : Int) (h0 : 0 ≤ n) (h1 : n ≤ 65535) (w : World) : keyOf Tryd.prog 123 (.agg #[.bool c, .int .u16 n]) = some (keyL c n) :=
  (keyOf_asKey deep123 wide123 (formed123 c n) (trod123 c n h0 h1 w)).1

/-! ### The map of spots -/
theorem keyL_inj {c c' : Bool} {n n' : Int} (h0 : 0 ≤ n) (h1 : n ≤ 65535) (h0' : 0 ≤ n') (h1' : n' ≤ 65535) (h : keyL c n = keyL c' n') : c = c' ∧ n = n' := by
  have e := law123.inj (keyOf123 c n h0 h1 default) (h ▸ keyOf123 c' n' h0' h1' default)
  simpa using e
structure MapD (D : DataW Unit) (s : List (Bool × Int)) : Prop where
  isMap : Maps.IsMap D
  at_ : ∀ (c : Bool) (n : Int), 0 ≤ n → n ≤ 65535 → D.atKey (keyL c n) (.lit (.bool false)) = .lit (.bool (decide ((c, n) ∈ s)))
  wf : ∀ p ∈ s, 0 ≤ p.2 ∧ p.2 ≤ 65535
theorem MapD.nil : MapD (.map []) [] := ⟨⟨_, rfl⟩, fun _ _ _ _ => by simp [DataW.atKey], fun _ h => by cases h⟩
theorem MapD.put {D : DataW Unit} {s : List (Bool × Int)} (h : MapD D s) (c : Bool) (n : Int) (h0 : 0 ≤ n) (h1 : n ≤ 65535) : MapD (D.put (keyL c n) (.lit (.bool true))) ((c, n) :: s) := by
  refine ⟨h.isMap.put _ _, fun c' n' h0' h1' => ?_, fun p hp => ?_⟩
  · by_cases e : keyL c' n' = keyL c n
    · obtain ⟨rfl, rfl⟩ := keyL_inj h0' h1' h0 h1 e
      rw [Maps.atKey_put_same h.isMap (law123.key (keyOf123 c' n' h0 h1 default))]
      simp
    · rw [Maps.atKey_put_other e, h.at_ c' n' h0' h1']
      have hne : (c', n') ≠ (c, n) := fun e2 => e (by injection e2 with e3 e4; rw [e3, e4])
      simp [hne]
  · rcases List.mem_cons.1 hp with rfl | hp
    · exact ⟨h0, h1⟩
    · exact h.wf p hp

theorem zeroBool (w : World) : (zeroValue 4).run Tryd.prog w = .ok (.bool false) w := by kernel_rfl
/-- What 'named[s]' tells. -/
theorem lookNamed {W : World} {b n : Nat} {D : DataW Unit} {s : List (Bool × Int)} (h : W.ownsMap Tryd.prog 123 (plainElem Tryd.prog 4) b n D) (hD : MapD D s) (c : Bool) (m : Int) (h0 : 0 ≤ m) (h1 : m ≤ 65535) :
    (Instr.lookup 121 (.map (some b)) (.agg #[.bool c, .int .u16 m]) false).run Tryd.prog W = .ok (.bool (decide ((c, m) ∈ s))) W := by
  obtain ⟨v, ps, hrun, hv⟩ := h.lookup law123 Tryd.underlying121 (zeroBool W) (plainElem_bool Tryd.underlying4 false) (keyOf123 c m h0 h1 W)
  rw [hD.at_ c m h0 h1] at hv
  have hv2 : v = .bool (decide ((c, m) ∈ s)) := by
    unfold plainElem at hv
    rw [Tryd.underlying4] at hv
    cases v <;> simp at hv
    rw [hv.1]
  rw [hrun, hv2]

/-! ### What relocs tells -/
def relA (l3 l4 : List Int) (l : List S43) : Nat → Nat → List (Bool × Int) → Option (Int ⊕ List (Bool × Int))
  | 0, _, s => some (.inr s)
  | d + 1, i, s => if i < l.length then (valid_of.f (rd_T43 l i).f0 (rd_T43 l i).f1 (rd_T43 l i).f2).bind fun sp =>
      if 0 ≤ sp.2 ∧ sp.2 ≤ 65535 ∧ 0 ≤ (rd_T43 l i).f1 ∧ (rd_T43 l i).f1 ≤ 65535 then
        (if sp ∈ s then some (.inl (i : Int)) else if (rd_T43 l i).f1 ≥ (if sp.1 = true then (l3.length : Int) else (l4.length : Int)) then some (.inl (i : Int)) else relA l3 l4 l d (i + 1) (sp :: s))
      else none
    else some (.inr s)
def relD (k : Nat) (l3 : List Int) (s : List (Bool × Int)) : Nat → Nat → Option (Int × Int)
  | 0, _ => some (0, 0)
  | d + 1, i => if i < l3.length then (isa_Decode.f k (rd l3 i)).bind fun x => if x.1 = 17 ∧ ¬ (true, (i : Int) % 65536) ∈ s then some (9, (i : Int)) else relD k l3 s d (i + 1) else some (0, 0)
def valid_relocs.f (k : Nat) (a0 : ByteArray) (l1 l2 : List ByteArray) (l3 l4 : List Int) (l5 : List S43) : Option (Int × Int) :=
  (relA l3 l4 l5 l5.length 0 []).bind fun s => match s with
    | .inl i => some (6, i)
    | .inr s => (idxF (fun r => (valid_fits.f k a0 l1 l2 l3 l4 l5 r.f0 r.f1 r.f2).map (!·)) l5 l5.length 0).bind fun i => if i ≥ 0 then some (7, i) else
        (idxF (fun r => (valid_there.f k a0 l1 l2 l3 l4 l5 r.f0 r.f1 r.f2).map (!·)) l5 l5.length 0).bind fun j => if j ≥ 0 then some (8, j) else relD k l3 s l3.length 0
theorem LeO.map {α β : Type} {a b : Option α} (h : LeO a b) (f : α → β) : LeO (a.map f) (b.map f) := by
  intro r hr
  obtain ⟨x, hx, rfl⟩ := Option.map_eq_some_iff.1 hr
  rw [h x hx]; rfl
theorem idxF_mono (p q : S43 → Option Bool) (h : ∀ r, LeO (p r) (q r)) (l : List S43) : ∀ d i, LeO (idxF p l d i) (idxF q l d i)
  | 0, _ => LeO.refl _
  | d + 1, i => by
    unfold idxF
    refine LeO.ite (LeO.bind (h _) fun b => LeO.ite (LeO.refl _) (idxF_mono p q h l d (i + 1))) (LeO.refl _)
theorem relD_mono (k : Nat) (l3 : List Int) (s : List (Bool × Int)) : ∀ d i, LeO (relD k l3 s d i) (relD (k + 1) l3 s d i)
  | 0, _ => LeO.refl _
  | d + 1, i => by
    unfold relD
    refine LeO.ite (LeO.bind (isa_Decode.mono _ _) fun b => LeO.ite (LeO.refl _) (relD_mono k l3 s d (i + 1))) (LeO.refl _)
theorem valid_relocs.mono : ∀ a0 a1 a2 a3 a4 a5 k, LeO (valid_relocs.f k a0 a1 a2 a3 a4 a5) (valid_relocs.f (k + 1) a0 a1 a2 a3 a4 a5) := by
  intro a0 a1 a2 a3 a4 a5 k
  unfold valid_relocs.f
  refine LeO.bind (LeO.refl _) fun s => ?_
  cases s with
  | inl i => exact LeO.refl _
  | inr s =>
    refine LeO.bind (idxF_mono _ _ (fun r => LeO.map (valid_fits.mono _ _ _ _ _ _ _ _ _ _) _) _ _ _) fun i => LeO.ite (LeO.refl _) ?_
    exact LeO.bind (idxF_mono _ _ (fun r => LeO.map (valid_there.mono _ _ _ _ _ _ _ _ _ _) _) _ _ _) fun i => LeO.ite (LeO.refl _) (relD_mono _ _ _ _ _)
end Go.Proofs.YtiphindialkmnaaDoor.X
end
section
namespace Go.Proofs.YtiphindialkmnaaDoor.X
open Go.RowKit Go.Lib Go.Maps Go.Joins Go.Proofs.YtiphindialkmnaaDoorW.PrintWords Go.Proofs.YtiphindialkmnaaDoorW.PrintLast Go.Proofs.YtiphindialkmnaaDoorW.PrintMore
set_option linter.unusedVariables false
set_option linter.unusedSimpArgs false
set_option maxRecDepth 100000


set_option maxRecDepth 100000 in
set_option maxHeartbeats 2000000 in
theorem valid_relocs.calls (k : Nat) (a0 : ByteArray) (A1 : Option Addr) (c1 : Nat) (l1 : List ByteArray) (A2 : Option Addr) (c2 : Nat) (l2 : List ByteArray) (A3 : Option Addr) (c3 : Nat) (l3 : List Int) (A4 : Option Addr) (c4 : Nat) (l4 : List Int) (A5 : Option Addr) (c5 : Nat) (l5 : List S43) (r1 r2 : Int) (w : World)
    (hr1 : Kd.C Kd.string w A1 l1.length l1) (hc1 : l1.length ≤ c1) (hr2 : Kd.C Kd.string w A2 l2.length l2) (hc2 : l2.length ≤ c2) (hr3 : Kd.C (Kd.int .u32) w A3 l3.length l3) (hc3 : l3.length ≤ c3) (hr4 : Kd.C (Kd.int .u32) w A4 l4.length l4) (hc4 : l4.length ≤ c4) (hr5 : Kd.C k43 w A5 l5.length l5) (hc5 : l5.length ≤ c5)
    (h : valid_relocs.f k a0 l1 l2 l3 l4 l5 = some (r1, r2)) :
    Calls Tryd.prog 40 #[.agg #[.string a0, .slice A1 l1.length c1, .slice A2 l2.length c2, .slice A3 l3.length c3, .slice A4 l4.length c4, .slice A5 l5.length c5]] w fun e w' => e = .returned (.tuple #[.int .u8 r1, .int .i64 r2]) ∧ Below w.heap.size w w' := by
  unfold valid_relocs.f at h
  obtain ⟨res, hA, h⟩ := Option.bind_eq_some_iff.1 h
  have HA := Aside0.mk hA
  have H := Aside0.mk h
  have HM := Aside0.mk (show l5.length ≤ 9223372036854775807 from hr5.2.1)
  have hmm := @run_makeMap Tryd.prog
  clear hA h
  go_enter Tryd.func40, Tryd.ntmps40
  go_wp2
  go_loopw [5, 6, 7, 8, 19] (fun _ _ _ _ n wr => ∃ (i d : Nat) (s : List (Bool × Int)) (D : DataW Unit), n = .int .i64 i ∧ i ≤ l5.length ∧ Aside0 (relA l3 l4 l5 d i s = some res) ∧ l5.length ≤ i + d ∧ Aside0 (MapD D s) ∧ Aside0 (wr.heap[w.heap.size]? = some (.cells #[.string a0, .slice A1 l1.length c1, .slice A2 l2.length c2, .slice A3 l3.length c3, .slice A4 l4.length c4, .slice A5 l5.length c5] 26 (0, 0))) ∧ Aside0 (wr.ownsMap Tryd.prog 123 (plainElem (H := Unit) Tryd.prog 4) (w.heap.size + 1) i D) ∧ Aside0 (Below w.heap.size w wr)) (fun _ _ _ _ n _ => l5.length - (RowKit.intOf n).toNat)
  case atStart =>
    refine ⟨0, l5.length, [], .map [], rfl, Nat.zero_le _, HA, by omega, ⟨MapD.nil⟩, ⟨?_⟩, ⟨?_⟩, ⟨below_alloc (below_alloc (Below.refl _ _) _) _⟩⟩
    · exact blk_alloc (by simpa using heap_alloc_new w _) _
    · have := World.ownsMap_made (H := Unit) (w.alloc (.cells #[.string a0, .slice A1 l1.length c1, .slice A2 l2.length c2, .slice A3 l3.length c3, .slice A4 l4.length c4, .slice A5 l5.length c5] 26)) Tryd.prog 123 (plainElem Tryd.prog 4)
      simpa using this
  case round =>
    obtain ⟨i, d, s, D, rfl, hi, hI, hd, HD, HK, HO, HB⟩ := hrel
    have hlm := HM.out
    by_cases hlt : i < l5.length
    · have HC := Aside0.mk (Kd.C_below hr5 HB.out)
      obtain ⟨ad, e1, hx0, hx1, hx2⟩ := at_T43 HC.out (i : Int) (by omega) (by omega)
      simp only [Int.toNat_natCast] at hx0 hx1 hx2
      have hd1 : decide ((i : Int) < (l5.length : Int)) = true := decide_eq_true (by omega)
      cases d with
      | zero => omega
      | succ d =>
      have hI := hI.out
      simp only [relA, if_pos hlt] at hI
      obtain ⟨⟨f0, f1, f2⟩, hrd⟩ : ∃ x, rd_T43 l5 (i : Int) = x := ⟨_, rfl⟩
      rw [hrd] at hx0 hx1 hx2 hI
      simp only at hx0 hx1 hx2 hI
      clear hrd
      obtain ⟨⟨b, at_⟩, hb0, hb1⟩ := Option.bind_eq_some_iff.1 hI
      obtain ⟨hwf, hb1⟩ : (0 ≤ at_ ∧ at_ ≤ 65535 ∧ 0 ≤ f1 ∧ f1 ≤ 65535) ∧ (if (b, at_) ∈ s then some (.inl (i : Int)) else if f1 ≥ (if b = true then (l3.length : Int) else (l4.length : Int)) then some (.inl (i : Int)) else relA l3 l4 l5 d (i + 1) ((b, at_) :: s)) = some res := by
        split at hb1
        · rename_i hw; exact ⟨hw, hb1⟩
        · cases hb1
      have HF := Aside0.mk hb0
      have HI := Aside0.mk hb1
      have HW := Aside0.mk hwf
      clear hI hb0 hb1 hwf
      cases e1
      go_wp2_with fail
      have HA1 := Aside0.mk (below_alloc HB.out (.cells #[.int .u8 f0, .int .u16 f1, .int .u16 f2] 43))
      have HB6 := Aside0.mk (heap_alloc_new wr (.cells #[.int .u8 f0, .int .u16 f1, .int .u16 f2] 43))
      have HK1 := Aside0.mk (blk_alloc HK.out (.cells #[.int .u8 f0, .int .u16 f1, .int .u16 f2] 43))
      have HO1 := Aside0.mk (HO.out.alloc (.cells #[.int .u8 f0, .int .u16 f1, .int .u16 f2] 43))
      clear hx0 hx1 hx2
      refine (valid_of.calls _ _ _ b at_ _ HF.out).mono ?_
      rintro e w2 ⟨rfl, hb2⟩
      have HB2 := Aside0.mk (below_step HA1.out hb2)
      have HK2 := Aside0.mk (blk_below HK1.out hb2)
      have HO2 := Aside0.mk (HO1.out.kept (grown_of_below hb2 none) (by simp))
      have HB62 := Aside0.mk (blk_below HB6.out hb2)
      have hlt2 : w.heap.size < w2.heap.size := blk_lt HK2.out
      have hlt3 : wr.heap.size < w2.heap.size := blk_lt HB62.out
      have hz0 : w2.cell? ⟨w.heap.size, 0, none⟩ = some (.string a0) := (blk_cell HK2.out 0).trans rfl
      have hz1 : w2.cell? ⟨w.heap.size, 1, none⟩ = some (.slice A1 l1.length c1) := (blk_cell HK2.out 1).trans rfl
      have hz2 : w2.cell? ⟨w.heap.size, 2, none⟩ = some (.slice A2 l2.length c2) := (blk_cell HK2.out 2).trans rfl
      have hz3 : w2.cell? ⟨w.heap.size, 3, none⟩ = some (.slice A3 l3.length c3) := (blk_cell HK2.out 3).trans rfl
      have hz4 : w2.cell? ⟨w.heap.size, 4, none⟩ = some (.slice A4 l4.length c4) := (blk_cell HK2.out 4).trans rfl
      have hz5 : w2.cell? ⟨w.heap.size, 5, none⟩ = some (.slice (some ad) l5.length c5) := (blk_cell HK2.out 5).trans rfl
      have hy0 : w2.cell? ⟨wr.heap.size, 0, none⟩ = some (.int .u8 f0) := (blk_cell HB62.out 0).trans rfl
      have hy1 : w2.cell? ⟨wr.heap.size, 1, none⟩ = some (.int .u16 f1) := (blk_cell HB62.out 1).trans rfl
      have hy2 : w2.cell? ⟨wr.heap.size, 2, none⟩ = some (.int .u16 f2) := (blk_cell HB62.out 2).trans rfl
      clear hb2 HA1 HK1 HO1 HB6 HK HO HB HB62
      have hlk := lookNamed (HO2.out.alloc (.cells #[.bool b, .int .u16 at_] 123)) HD.out b at_ HW.out.1 HW.out.2.1
      obtain ⟨n, hn⟩ : ∃ n : Int, n = (if b = true then (l3.length : Int) else (l4.length : Int)) := ⟨_, rfl⟩
      have HI2 := HI.out
      rw [← hn] at HI2
      cases b with
      | true =>
        simp only [if_true] at hn
        subst hn
        by_cases cs : (true, at_) ∈ s
        · rw [if_pos cs] at HI2
          obtain rfl := Option.some.inj HI2
          have H2 := H.out
          simp only [Option.some.injEq, Prod.mk.injEq] at H2
          obtain ⟨rfl, rfl⟩ := H2
          have cs' : decide ((true, at_) ∈ s) = true := decide_eq_true cs
          rw [cs'] at hlk
          clear HI2 HI cs cs' H
          go_wp2
          go_ret2
          exact ⟨rfl, below_alloc HB2.out _⟩
        rw [if_neg cs] at HI2
        have cs' : decide ((true, at_) ∈ s) = false := decide_eq_false cs
        rw [cs'] at hlk
        have hw0 := HW.out.2.2.1
        have hw1 := HW.out.2.2.2
        by_cases cl : f1 ≥ (l3.length : Int)
        · rw [if_pos cl] at HI2
          obtain rfl := Option.some.inj HI2
          have H2 := H.out
          simp only [Option.some.injEq, Prod.mk.injEq] at H2
          obtain ⟨rfl, rfl⟩ := H2
          have cl' : decide ((l3.length : Int) ≤ f1) = true := decide_eq_true cl
          clear HI2 HI cs cs' H cl
          go_wp2
          go_ret2
          exact ⟨rfl, below_alloc HB2.out _⟩
        rw [if_neg cl] at HI2
        have HI3 := Aside0.mk HI2
        have cl' : decide ((l3.length : Int) ≤ f1) = false := decide_eq_false cl
        clear HI2 HI cs cs' cl
        go_wp2_with (at_mapUpdate; refine wpList_mapUpdate_own _ rfl _ _ _ 121 rfl 123 4 law123 Tryd.underlying121 (plainElem (H := Unit) Tryd.prog 4) (w.heap.size + 1) i D rfl (HO2.out.alloc _) (by unfold maxLen; omega) _ _ (keyL true at_) rfl rfl (keyOf123 true at_ HW.out.1 HW.out.2.1 default) (.lit (.bool true)) [] (plainElem_bool Tryd.underlying4 true) ?_; intro w3 hown3 hgrow3)
        have HK3 := Aside0.mk (blk_grown (blk_alloc HK2.out _) hgrow3 (by simp))
        have HB3 := Aside0.mk ((below_alloc HB2.out _).grown hgrow3 (by simp; omega) (fun k hk => by cases hk; omega))
        have HO3 := Aside0.mk hown3
        have HD3 := Aside0.mk (HD.out.put true at_ HW.out.1 HW.out.2.1)
        clear hlk hgrow3 hown3
        go_wp2
        go_roundw
        case rel => exact ⟨i + 1, d, _, _, by go_num, by omega, HI3, by omega, HD3, HK3, HO3, HB3⟩
        case measure => simp [RowKit.intOf]; omega
      | false =>
        simp only [Bool.false_eq_true, if_false] at hn
        subst hn
        by_cases cs : (false, at_) ∈ s
        · rw [if_pos cs] at HI2
          obtain rfl := Option.some.inj HI2
          have H2 := H.out
          simp only [Option.some.injEq, Prod.mk.injEq] at H2
          obtain ⟨rfl, rfl⟩ := H2
          have cs' : decide ((false, at_) ∈ s) = true := decide_eq_true cs
          rw [cs'] at hlk
          clear HI2 HI cs cs' H
          go_wp2
          go_ret2
          exact ⟨rfl, below_alloc HB2.out _⟩
        rw [if_neg cs] at HI2
        have cs' : decide ((false, at_) ∈ s) = false := decide_eq_false cs
        rw [cs'] at hlk
        have hw0 := HW.out.2.2.1
        have hw1 := HW.out.2.2.2
        by_cases cl : f1 ≥ (l4.length : Int)
        · rw [if_pos cl] at HI2
          obtain rfl := Option.some.inj HI2
          have H2 := H.out
          simp only [Option.some.injEq, Prod.mk.injEq] at H2
          obtain ⟨rfl, rfl⟩ := H2
          have cl' : decide ((l4.length : Int) ≤ f1) = true := decide_eq_true cl
          clear HI2 HI cs cs' H cl
          go_wp2
          go_ret2
          exact ⟨rfl, below_alloc HB2.out _⟩
        rw [if_neg cl] at HI2
        have HI3 := Aside0.mk HI2
        have cl' : decide ((l4.length : Int) ≤ f1) = false := decide_eq_false cl
        clear HI2 HI cs cs' cl
        go_wp2_with (at_mapUpdate; refine wpList_mapUpdate_own _ rfl _ _ _ 121 rfl 123 4 law123 Tryd.underlying121 (plainElem (H := Unit) Tryd.prog 4) (w.heap.size + 1) i D rfl (HO2.out.alloc _) (by unfold maxLen; omega) _ _ (keyL false at_) rfl rfl (keyOf123 false at_ HW.out.1 HW.out.2.1 default) (.lit (.bool true)) [] (plainElem_bool Tryd.underlying4 true) ?_; intro w3 hown3 hgrow3)
        have HK3 := Aside0.mk (blk_grown (blk_alloc HK2.out _) hgrow3 (by simp))
        have HB3 := Aside0.mk ((below_alloc HB2.out _).grown hgrow3 (by simp; omega) (fun k hk => by cases hk; omega))
        have HO3 := Aside0.mk hown3
        have HD3 := Aside0.mk (HD.out.put false at_ HW.out.1 HW.out.2.1)
        clear hlk hgrow3 hown3
        go_wp2
        go_roundw
        case rel => exact ⟨i + 1, d, _, _, by go_num, by omega, HI3, by omega, HD3, HK3, HO3, HB3⟩
        case measure => simp [RowKit.intOf]; omega
    · have hd1 : decide ((i : Int) < (l5.length : Int)) = false := decide_eq_false (by omega)
      have hI2 := hI.out
      have hres : res = .inr s := by
        have hE : some (Sum.inr s) = some res := by
          rw [← hI2]
          cases d with
          | zero => rfl
          | succ d => simp only [relA, if_neg hlt]
        exact (Option.some.inj hE).symm
      subst hres
      clear hI hI2
      have H1 := H.out
      simp only at H1
      obtain ⟨x1, h1, H1⟩ := Option.bind_eq_some_iff.1 H1
      have HX1 := Aside0.mk h1
      clear h1 H
      have hlt2 : w.heap.size < wr.heap.size := blk_lt HK.out
      have hz0 : wr.cell? ⟨w.heap.size, 0, none⟩ = some (.string a0) := (blk_cell HK.out 0).trans rfl
      have hz1 : wr.cell? ⟨w.heap.size, 1, none⟩ = some (.slice A1 l1.length c1) := (blk_cell HK.out 1).trans rfl
      have hz2 : wr.cell? ⟨w.heap.size, 2, none⟩ = some (.slice A2 l2.length c2) := (blk_cell HK.out 2).trans rfl
      have hz3 : wr.cell? ⟨w.heap.size, 3, none⟩ = some (.slice A3 l3.length c3) := (blk_cell HK.out 3).trans rfl
      have hz4 : wr.cell? ⟨w.heap.size, 4, none⟩ = some (.slice A4 l4.length c4) := (blk_cell HK.out 4).trans rfl
      have hz5 : wr.cell? ⟨w.heap.size, 5, none⟩ = some (.slice A5 l5.length c5) := (blk_cell HK.out 5).trans rfl
      have hr1 := Aside0.mk (Kd.C_below hr1 HB.out)
      have hr2 := Aside0.mk (Kd.C_below hr2 HB.out)
      have hr3 := Aside0.mk (Kd.C_below hr3 HB.out)
      have hr4 := Aside0.mk (Kd.C_below hr4 HB.out)
      have hr5 := Aside0.mk (Kd.C_below hr5 HB.out)
      by_cases g1 : x1 ≥ 0
      · rw [if_pos g1] at H1
        simp only [Option.some.injEq, Prod.mk.injEq] at H1
        obtain ⟨rfl, rfl⟩ := H1
        have g1' : decide (0 ≤ x1) = true := decide_eq_true g1
        clear g1
        go_wp2_with fail
        refine (IndexFunc79.calls k a0 _ c1 l1 _ c2 l2 _ c3 l3 _ c4 l4 _ c5 l5 w.heap.size x1 _ HK.out hr1.out hc1 hr2.out hc2 hr3.out hc3 hr4.out hc4 hr5.out hc5 HX1.out).mono ?_
        rintro e w3 ⟨rfl, hb3⟩
        have HB3 := Aside0.mk (below_step HB.out hb3)
        clear hb3
        go_wp2
        go_ret2
        exact ⟨rfl, HB3.out⟩
      rw [if_neg g1] at H1
      obtain ⟨x2, h2, H1⟩ := Option.bind_eq_some_iff.1 H1
      have HX2 := Aside0.mk h2
      have g1' : decide (0 ≤ x1) = false := decide_eq_false g1
      clear h2 g1
      have H1 := Aside0.mk H1
      go_wp2_with fail
      refine (IndexFunc79.calls k a0 _ c1 l1 _ c2 l2 _ c3 l3 _ c4 l4 _ c5 l5 w.heap.size x1 _ HK.out hr1.out hc1 hr2.out hc2 hr3.out hc3 hr4.out hc4 hr5.out hc5 HX1.out).mono ?_
      rintro e w3 ⟨rfl, hb3⟩
      have HB3 := Aside0.mk (below_step HB.out hb3)
      have HK3 := Aside0.mk (blk_below HK.out hb3)
      have HO3 := Aside0.mk (HO.out.kept (grown_of_below hb3 none) (by simp))
      have hlt3 : w.heap.size < w3.heap.size := blk_lt HK3.out
      have hs1 := Aside0.mk (Kd.C_below hr1.out hb3)
      have hs2 := Aside0.mk (Kd.C_below hr2.out hb3)
      have hs3 := Aside0.mk (Kd.C_below hr3.out hb3)
      have hs4 := Aside0.mk (Kd.C_below hr4.out hb3)
      have hs5 := Aside0.mk (Kd.C_below hr5.out hb3)
      clear hb3 hr1 hr2 hr3 hr4 hr5 HX1 hz0 hz1 hz2 hz3 hz4 hz5 HB HK HO
      have hz0 : w3.cell? ⟨w.heap.size, 0, none⟩ = some (.string a0) := (blk_cell HK3.out 0).trans rfl
      have hz1 : w3.cell? ⟨w.heap.size, 1, none⟩ = some (.slice A1 l1.length c1) := (blk_cell HK3.out 1).trans rfl
      have hz2 : w3.cell? ⟨w.heap.size, 2, none⟩ = some (.slice A2 l2.length c2) := (blk_cell HK3.out 2).trans rfl
      have hz3 : w3.cell? ⟨w.heap.size, 3, none⟩ = some (.slice A3 l3.length c3) := (blk_cell HK3.out 3).trans rfl
      have hz4 : w3.cell? ⟨w.heap.size, 4, none⟩ = some (.slice A4 l4.length c4) := (blk_cell HK3.out 4).trans rfl
      have hz5 : w3.cell? ⟨w.heap.size, 5, none⟩ = some (.slice A5 l5.length c5) := (blk_cell HK3.out 5).trans rfl
      have H1 := H1.out
      by_cases g2 : x2 ≥ 0
      · rw [if_pos g2] at H1
        simp only [Option.some.injEq, Prod.mk.injEq] at H1
        obtain ⟨rfl, rfl⟩ := H1
        have g2' : decide (0 ≤ x2) = true := decide_eq_true g2
        clear g2
        go_wp2_with fail
        refine (IndexFunc81.calls k a0 _ c1 l1 _ c2 l2 _ c3 l3 _ c4 l4 _ c5 l5 w.heap.size x2 _ HK3.out hs1.out hc1 hs2.out hc2 hs3.out hc3 hs4.out hc4 hs5.out hc5 HX2.out).mono ?_
        rintro e w4 ⟨rfl, hb4⟩
        have HB4 := Aside0.mk (below_step HB3.out hb4)
        clear hb4
        go_wp2
        go_ret2
        exact ⟨rfl, HB4.out⟩
      rw [if_neg g2] at H1
      have g2' : decide (0 ≤ x2) = false := decide_eq_false g2
      have H1 := Aside0.mk H1
      clear g2
      go_wp2_with fail
      refine (IndexFunc81.calls k a0 _ c1 l1 _ c2 l2 _ c3 l3 _ c4 l4 _ c5 l5 w.heap.size x2 _ HK3.out hs1.out hc1 hs2.out hc2 hs3.out hc3 hs4.out hc4 hs5.out hc5 HX2.out).mono ?_
      rintro e w4 ⟨rfl, hb4⟩
      have HB4 := Aside0.mk (below_step HB3.out hb4)
      have HK4 := Aside0.mk (blk_below HK3.out hb4)
      have HO4 := Aside0.mk (HO3.out.kept (grown_of_below hb4 none) (by simp))
      have ht3 := Aside0.mk (Kd.C_below hs3.out hb4)
      have hlt4 : w.heap.size < w4.heap.size := blk_lt HK4.out
      have HM3 := Aside0.mk (show l3.length ≤ 9223372036854775807 from ht3.out.2.1)
      clear hb4 hs1 hs2 hs3 hs4 hs5 HX2 hz0 hz1 hz2 hz3 hz4 hz5 HB3 HK3 HO3
      have hz0 : w4.cell? ⟨w.heap.size, 0, none⟩ = some (.string a0) := (blk_cell HK4.out 0).trans rfl
      have hz1 : w4.cell? ⟨w.heap.size, 1, none⟩ = some (.slice A1 l1.length c1) := (blk_cell HK4.out 1).trans rfl
      have hz2 : w4.cell? ⟨w.heap.size, 2, none⟩ = some (.slice A2 l2.length c2) := (blk_cell HK4.out 2).trans rfl
      have hz3 : w4.cell? ⟨w.heap.size, 3, none⟩ = some (.slice A3 l3.length c3) := (blk_cell HK4.out 3).trans rfl
      have hz4 : w4.cell? ⟨w.heap.size, 4, none⟩ = some (.slice A4 l4.length c4) := (blk_cell HK4.out 4).trans rfl
      have hz5 : w4.cell? ⟨w.heap.size, 5, none⟩ = some (.slice A5 l5.length c5) := (blk_cell HK4.out 5).trans rfl
      go_wp2
      go_loopw [11, 12, 13, 14, 65] (fun _ _ _ _ n W => ∃ (j e : Nat), n = .int .i64 j ∧ j ≤ l3.length ∧ Aside0 (relD k l3 s e j = some (r1, r2)) ∧ l3.length ≤ j + e ∧ Aside0 (W.ownsMap Tryd.prog 123 (plainElem (H := Unit) Tryd.prog 4) (w.heap.size + 1) i D) ∧ Aside0 (Kd.C (Kd.int .u32) W A3 l3.length l3) ∧ Aside0 (Below w.heap.size w W)) (fun _ _ _ _ n _ => l3.length - (RowKit.intOf n).toNat)
      case atStart => exact ⟨0, l3.length, rfl, Nat.zero_le _, H1, by omega, HO4, ht3, HB4⟩
      case round =>
        clear hz0 hz1 hz2 hz3 hz4 hz5
        obtain ⟨j, e, rfl, hj, hI, he, HO, HC, HB⟩ := hrel
        have hlm3 := HM3.out
        by_cases hlj : j < l3.length
        · have hd1 : decide ((j : Int) < (l3.length : Int)) = true := decide_eq_true (by omega)
          obtain ⟨ad3, e3, hx3⟩ := Kd.at_int HC.out (j : Int) (by omega) (by omega)
          simp only [Int.toNat_natCast] at hx3
          cases e with
          | zero => omega
          | succ e =>
          have hI := hI.out
          simp only [relD, if_pos hlj] at hI
          obtain ⟨⟨y1, y2, y3, y4, y5, y6⟩, hd0, hI⟩ := Option.bind_eq_some_iff.1 hI
          have HF := Aside0.mk hd0
          cases e3
          clear hd0
          go_wp2_with fail
          refine (isa_Decode.calls k _ y1 y2 y3 y4 y5 y6 _ HF.out).mono ?_
          rintro e w5 ⟨rfl, hb5⟩
          have HB5 := Aside0.mk (below_step HB.out hb5)
          have HO5 := Aside0.mk (HO.out.kept (grown_of_below hb5 none) (by simp))
          have HC5 := Aside0.mk (Kd.C_below HC.out hb5)
          clear hb5 HB HO HC hx3
          have hlk := lookNamed (HO5.out.alloc (.cells #[.int .u8 y1, .int .u8 y2, .int .u8 y3, .int .u8 y4, .int .i32 y5] 47)) HD.out true ((j : Int) % 65536) (by omega) (by omega)
          have ew : IntKind.u16.wrap (j : Int) = (j : Int) % 65536 := by simp [IntKind.wrap, IntKind.signed, IntKind.bits]
          rw [← ew] at hlk
          rw [← ew] at hI
          clear ew
          have next : ∀ (hI : relD k l3 s e (j + 1) = some (r1, r2)), Aside0 (relD k l3 s e (j + 1) = some (r1, r2)) := fun h => ⟨h⟩
          by_cases cy : y1 = 17
          · have cy' : (y1 == 17) = true := beq_iff_eq.2 cy
            by_cases cs : (true, IntKind.u16.wrap (j : Int)) ∈ s
            · rw [if_neg (fun h => h.2 cs)] at hI
              have HE := next hI
              have cs' : decide ((true, IntKind.u16.wrap (j : Int)) ∈ s) = true := decide_eq_true cs
              rw [cs'] at hlk
              clear hI cs cs' cy next
              go_wp2
              go_roundw
              case rel => exact ⟨j + 1, e, by go_num, by omega, HE, by omega, ⟨HO5.out.alloc _⟩, ⟨Kd.C_alloc HC5.out _⟩, ⟨below_alloc HB5.out _⟩⟩
              case measure => simp [RowKit.intOf]; omega
            · rw [if_pos ⟨cy, cs⟩] at hI
              simp only [Option.some.injEq, Prod.mk.injEq] at hI
              obtain ⟨rfl, rfl⟩ := hI
              have cs' : decide ((true, IntKind.u16.wrap (j : Int)) ∈ s) = false := decide_eq_false cs
              rw [cs'] at hlk
              clear cs cs' cy next H1
              go_wp2
              go_ret2
              exact ⟨rfl, below_alloc HB5.out _⟩
          · have cy' : (y1 == 17) = false := beq_eq_false_iff_ne.2 cy
            rw [if_neg (fun h => cy h.1)] at hI
            have HE := next hI
            clear hI cy next hlk
            go_wp2
            go_roundw
            case rel => exact ⟨j + 1, e, by go_num, by omega, HE, by omega, ⟨HO5.out.alloc _⟩, ⟨Kd.C_alloc HC5.out _⟩, ⟨below_alloc HB5.out _⟩⟩
            case measure => simp [RowKit.intOf]; omega
        · have hd1 : decide ((j : Int) < (l3.length : Int)) = false := decide_eq_false (by omega)
          have hI2 := hI.out
          have hE : some (0, 0) = some (r1, r2) := by
            rw [← hI2]
            cases e with
            | zero => rfl
            | succ e => simp only [relD, if_neg hlj]
          simp only [Option.some.injEq, Prod.mk.injEq] at hE
          obtain ⟨rfl, rfl⟩ := hE
          clear hI hI2 H1
          go_wp2
          go_ret2
          exact ⟨rfl, HB.out⟩
end Go.Proofs.YtiphindialkmnaaDoor.X
end
section
namespace Go.Proofs.YtiphindialkmnaaDoor.X
open Go.RowKit Go.Proofs.YtiphindialkmnaaDoorW.PrintWords Go.Proofs.YtiphindialkmnaaDoorW.PrintLast Go.Proofs.YtiphindialkmnaaDoorW.PrintMore
attribute [local go_sem] max2_int min2_int max_two min_two max_three min_three max_four min_four
set_option linter.unusedVariables false
set_option linter.unusedSimpArgs false

/-! ### valid_Module: function 16 -/
def valid_Module.f (k : Nat) (a0_0 : ByteArray) (l0_1 : List ByteArray) (l0_2 : List ByteArray) (l0_3 : List Int) (l0_4 : List Int) (l0_5 : List (S43)) : Option (Int × Int) := (object_Check.f k a0_0 l0_1 l0_2 l0_3 l0_4 l0_5).bind fun t102 => (if t102 = 0 then ((valid_texts.f k a0_0 l0_1 l0_2 l0_3 l0_4 l0_5).bind fun bt103 => (if bt103.1 = 0 then ((valid_words.f k a0_0 l0_1 l0_2 l0_3 l0_4 l0_5).bind fun bt105 => (if bt105.1 = 0 then ((valid_relocs.f k a0_0 l0_1 l0_2 l0_3 l0_4 l0_5).bind fun bt107 => (some (bt107.1, bt107.2))) else (some (bt105.1, bt105.2)))) else (some (bt103.1, bt103.2)))) else (some (1, 0)))
theorem valid_Module.mono : ∀ a0 a1 a2 a3 a4 a5 k, LeO (valid_Module.f k a0 a1 a2 a3 a4 a5) (valid_Module.f (k + 1) a0 a1 a2 a3 a4 a5) := by
 intro a0 a1 a2 a3 a4 a5 k
 unfold valid_Module.f
 repeat' first
   | (with_reducible exact object_Check.mono _ _ _ _ _ _ _)
   | (with_reducible exact valid_relocs.mono _ _ _ _ _ _ _)
   | (with_reducible exact valid_texts.mono _ _ _ _ _ _ _)
   | (with_reducible exact valid_words.mono _ _ _ _ _ _ _)
   | (with_reducible exact LeO.refl _)
   | (with_reducible exact LeO.none _)
   | (with_reducible refine LeO.ite ?_ ?_)
   | (with_reducible refine LeO.bind ?_ (fun _ => ?_))
set_option maxHeartbeats 8000000 in
set_option maxRecDepth 100000 in
theorem valid_Module.calls (k : Nat) (a0_0 : ByteArray) (A0_1 : Option Addr) (c0_1 : Nat) (l0_1 : List ByteArray) (A0_2 : Option Addr) (c0_2 : Nat) (l0_2 : List ByteArray) (A0_3 : Option Addr) (c0_3 : Nat) (l0_3 : List Int) (A0_4 : Option Addr) (c0_4 : Nat) (l0_4 : List Int) (A0_5 : Option Addr) (c0_5 : Nat) (l0_5 : List (S43)) (r1 : Int) (r2 : Int) (w : World) (hG : Glob w) (hr0_1 : Kd.C Kd.string w A0_1 l0_1.length l0_1) (hc0_1 : l0_1.length ≤ c0_1) (hr0_2 : Kd.C Kd.string w A0_2 l0_2.length l0_2) (hc0_2 : l0_2.length ≤ c0_2) (hr0_3 : Kd.C (Kd.int .u32) w A0_3 l0_3.length l0_3) (hc0_3 : l0_3.length ≤ c0_3) (hr0_4 : Kd.C (Kd.int .u32) w A0_4 l0_4.length l0_4) (hc0_4 : l0_4.length ≤ c0_4) (hr0_5 : Kd.C k43 w A0_5 l0_5.length l0_5) (hc0_5 : l0_5.length ≤ c0_5) (h : valid_Module.f k a0_0 l0_1 l0_2 l0_3 l0_4 l0_5 = some (r1, r2)) :
  Calls Tryd.prog 16 #[.agg #[.string a0_0, .slice A0_1 l0_1.length c0_1, .slice A0_2 l0_2.length c0_2, .slice A0_3 l0_3.length c0_3, .slice A0_4 l0_4.length c0_4, .slice A0_5 l0_5.length c0_5]] w fun e w' => e = .returned (.tuple #[.int .u8 r1, .int .i64 r2]) ∧ Below w.heap.size w w' := by
 have hu26 := Tryd.underlying26
 have HR0_1 := Aside0.mk hr0_1
 have HC0_1 := Aside0.mk hc0_1
 clear hr0_1 hc0_1
 have HR0_2 := Aside0.mk hr0_2
 have HC0_2 := Aside0.mk hc0_2
 clear hr0_2 hc0_2
 have HR0_3 := Aside0.mk hr0_3
 have HC0_3 := Aside0.mk hc0_3
 clear hr0_3 hc0_3
 have HR0_4 := Aside0.mk hr0_4
 have HC0_4 := Aside0.mk hc0_4
 clear hr0_4 hc0_4
 have HR0_5 := Aside0.mk hr0_5
 have HC0_5 := Aside0.mk hc0_5
 clear hr0_5 hc0_5
 have HG := Aside0.mk hG
 clear hG
 have HB := Aside0.mk (Below.refl w.heap.size w)
 have H : ((object_Check.f k a0_0 l0_1 l0_2 l0_3 l0_4 l0_5).bind fun t102 => (if t102 = 0 then ((valid_texts.f k a0_0 l0_1 l0_2 l0_3 l0_4 l0_5).bind fun bt103 => (if bt103.1 = 0 then ((valid_words.f k a0_0 l0_1 l0_2 l0_3 l0_4 l0_5).bind fun bt105 => (if bt105.1 = 0 then ((valid_relocs.f k a0_0 l0_1 l0_2 l0_3 l0_4 l0_5).bind fun bt107 => (some (bt107.1, bt107.2))) else (some (bt105.1, bt105.2)))) else (some (bt103.1, bt103.2)))) else (some (1, 0)))) = some (r1, r2) := h
 clear h
 replace H := Option.bind_eq_some_iff.mp H
 obtain ⟨t102, A20, H⟩ := H
 replace H : (if t102 = 0 then ((valid_texts.f k a0_0 l0_1 l0_2 l0_3 l0_4 l0_5).bind fun bt103 => (if bt103.1 = 0 then ((valid_words.f k a0_0 l0_1 l0_2 l0_3 l0_4 l0_5).bind fun bt105 => (if bt105.1 = 0 then ((valid_relocs.f k a0_0 l0_1 l0_2 l0_3 l0_4 l0_5).bind fun bt107 => (some (bt107.1, bt107.2))) else (some (bt105.1, bt105.2)))) else (some (bt103.1, bt103.2)))) else (some (1, 0))) = some (r1, r2) := H
 have A2 := Aside0.mk A20
 clear A20
 by_cases c3 : t102 = 0
 ·rw [if_pos c3] at H
  have c3b0 : (t102 == 0) = true := beq_iff_eq.mpr c3
  have c3b1 : (t102 != 0) = false := bne_eq_false_iff_eq.mpr c3
  clear c3
  replace H := Option.bind_eq_some_iff.mp H
  obtain ⟨⟨t103, t104⟩, A40, H⟩ := H
  replace H : (if t103 = 0 then ((valid_words.f k a0_0 l0_1 l0_2 l0_3 l0_4 l0_5).bind fun bt105 => (if bt105.1 = 0 then ((valid_relocs.f k a0_0 l0_1 l0_2 l0_3 l0_4 l0_5).bind fun bt107 => (some (bt107.1, bt107.2))) else (some (bt105.1, bt105.2)))) else (some (t103, t104))) = some (r1, r2) := H
  have A4 := Aside0.mk A40
  clear A40
  by_cases c5 : t103 = 0
  ·rw [if_pos c5] at H
   have c5b0 : (t103 == 0) = true := beq_iff_eq.mpr c5
   have c5b1 : (t103 != 0) = false := bne_eq_false_iff_eq.mpr c5
   clear c5
   replace H := Option.bind_eq_some_iff.mp H
   obtain ⟨⟨t105, t106⟩, A60, H⟩ := H
   replace H : (if t105 = 0 then ((valid_relocs.f k a0_0 l0_1 l0_2 l0_3 l0_4 l0_5).bind fun bt107 => (some (bt107.1, bt107.2))) else (some (t105, t106))) = some (r1, r2) := H
   have A6 := Aside0.mk A60
   clear A60
   by_cases c7 : t105 = 0
   ·rw [if_pos c7] at H
    have c7b0 : (t105 == 0) = true := beq_iff_eq.mpr c7
    have c7b1 : (t105 != 0) = false := bne_eq_false_iff_eq.mpr c7
    clear c7
    replace H := Option.bind_eq_some_iff.mp H
    obtain ⟨⟨t107, t108⟩, A80, H⟩ := H
    replace H : (some (t107, t108)) = some (r1, r2) := H
    have A8 := Aside0.mk A80
    clear A80
    simp only [Option.some.injEq, Prod.mk.injEq] at H
    obtain ⟨rfl, rfl⟩ := H
    go_enter Tryd.func16, Tryd.ntmps16
    go_wp2_with (first | ((with_reducible refine gate_dst (N := 1) rfl ?_); refine box_event ?hg (N := 1) ?hd (cs := #[.string a0_0, .slice A0_1 l0_1.length c0_1, .slice A0_2 l0_2.length c0_2, .slice A0_3 l0_3.length c0_3, .slice A0_4 l0_4.length c0_4, .slice A0_5 l0_5.length c0_5]) (t := 26) ?hr ?_; (case hd => rfl); (case hg => rfl); (case hr => first | (go_simp; done) | (go_simp; rfl)); intro gb101 hg w9 hbox hb; have n0_ := Aside0.mk (below_step (tg HB.out) hb); have n1_ := Aside0.mk (hbox); have n2_ := Aside0.mk ((by rw [hg]; exact (below_size (tg HB.out)) : w.heap.size ≤ gb101)); have n3_ := Aside0.mk ((by rw [hg]; exact (below_size (tg HB.out)) : w.heap.size ≤ gb101)); clear HB; have HB := n0_; have BK101 := n1_; have GW101 := n2_; have GE101 := n3_; clear n0_ n1_ n2_ n3_; clear hb hbox hg; obtain ⟨hcz10_0, hcz10_1, hcz10_2, hcz10_3, hcz10_4, hcz10_5, hfz10_0, hfz10_1, hfz10_2, hfz10_3, hfz10_4, hfz10_5⟩ := cq6 BK101.out) | ((with_reducible refine gate_callee (f := 37) rfl ?_); refine goesL_ (some 9) rfl rfl Tryd.func37 (by kernel_rfl) rfl #[.agg #[.string a0_0, .slice A0_1 l0_1.length c0_1, .slice A0_2 l0_2.length c0_2, .slice A0_3 l0_3.length c0_3, .slice A0_4 l0_4.length c0_4, .slice A0_5 l0_5.length c0_5]] rfl tm ?_; (with_reducible refine (object_Check.calls k a0_0 _ _ l0_1 _ _ l0_2 _ _ l0_3 _ _ l0_4 _ _ l0_5 t102 _ (tc (Kd.C_below HR0_1.out HB.out)) HC0_1.out (tc (Kd.C_below HR0_2.out HB.out)) HC0_2.out (tc (Kd.C_below HR0_3.out HB.out)) HC0_3.out (tc (Kd.C_below HR0_4.out HB.out)) HC0_4.out (tc (Kd.C_below HR0_5.out HB.out)) HC0_5.out A2.out).mono ?_); rintro e w11 ⟨rfl, hb⟩; refine ⟨_, rfl, ?_⟩; replace BK101 := ba BK101.out hb; replace HB := Aside0.mk (below_step (tg1 HB.out GE101.out) hb); (try clear hb); obtain ⟨hcz12_0, hcz12_1, hcz12_2, hcz12_3, hcz12_4, hcz12_5, hfz12_0, hfz12_1, hfz12_2, hfz12_3, hfz12_4, hfz12_5⟩ := cq6 BK101.out) | ((with_reducible refine gate_callee (f := 38) rfl ?_); refine goesL_ (some 13) rfl rfl Tryd.func38 (by kernel_rfl) rfl #[.agg #[.string a0_0, .slice A0_1 l0_1.length c0_1, .slice A0_2 l0_2.length c0_2, .slice A0_3 l0_3.length c0_3, .slice A0_4 l0_4.length c0_4, .slice A0_5 l0_5.length c0_5]] rfl tm ?_; (with_reducible refine (valid_texts.calls k a0_0 _ _ l0_1 _ _ l0_2 _ _ l0_3 _ _ l0_4 _ _ l0_5 t103 t104 _ (by first | exact HG.out | exact Glob.below HG.out (tg1 HB.out GE101.out)) (tc (Kd.C_below HR0_1.out HB.out)) HC0_1.out (tc (Kd.C_below HR0_2.out HB.out)) HC0_2.out (tc (Kd.C_below HR0_3.out HB.out)) HC0_3.out (tc (Kd.C_below HR0_4.out HB.out)) HC0_4.out (tc (Kd.C_below HR0_5.out HB.out)) HC0_5.out A4.out).mono ?_); rintro e w13 ⟨rfl, hb⟩; refine ⟨_, rfl, ?_⟩; replace BK101 := ba BK101.out hb; replace HB := Aside0.mk (below_step (tg1 HB.out GE101.out) hb); (try clear hb); obtain ⟨hcz14_0, hcz14_1, hcz14_2, hcz14_3, hcz14_4, hcz14_5, hfz14_0, hfz14_1, hfz14_2, hfz14_3, hfz14_4, hfz14_5⟩ := cq6 BK101.out) | ((with_reducible refine gate_callee (f := 39) rfl ?_); refine goesL_ (some 22) rfl rfl Tryd.func39 (by kernel_rfl) rfl #[.agg #[.string a0_0, .slice A0_1 l0_1.length c0_1, .slice A0_2 l0_2.length c0_2, .slice A0_3 l0_3.length c0_3, .slice A0_4 l0_4.length c0_4, .slice A0_5 l0_5.length c0_5]] rfl tm ?_; (with_reducible refine (valid_words.calls k a0_0 _ _ l0_1 _ _ l0_2 _ _ l0_3 _ _ l0_4 _ _ l0_5 t105 t106 _ (tc (Kd.C_below HR0_1.out HB.out)) HC0_1.out (tc (Kd.C_below HR0_2.out HB.out)) HC0_2.out (tc (Kd.C_below HR0_3.out HB.out)) HC0_3.out (tc (Kd.C_below HR0_4.out HB.out)) HC0_4.out (tc (Kd.C_below HR0_5.out HB.out)) HC0_5.out A6.out).mono ?_); rintro e w15 ⟨rfl, hb⟩; refine ⟨_, rfl, ?_⟩; replace BK101 := ba BK101.out hb; replace HB := Aside0.mk (below_step (tg1 HB.out GE101.out) hb); (try clear hb); obtain ⟨hcz16_0, hcz16_1, hcz16_2, hcz16_3, hcz16_4, hcz16_5, hfz16_0, hfz16_1, hfz16_2, hfz16_3, hfz16_4, hfz16_5⟩ := cq6 BK101.out) | ((with_reducible refine gate_callee (f := 40) rfl ?_); refine goesL_ (some 30) rfl rfl Tryd.func40 (by kernel_rfl) rfl #[.agg #[.string a0_0, .slice A0_1 l0_1.length c0_1, .slice A0_2 l0_2.length c0_2, .slice A0_3 l0_3.length c0_3, .slice A0_4 l0_4.length c0_4, .slice A0_5 l0_5.length c0_5]] rfl tm ?_; (with_reducible refine (valid_relocs.calls k a0_0 _ _ l0_1 _ _ l0_2 _ _ l0_3 _ _ l0_4 _ _ l0_5 t107 t108 _ (tc (Kd.C_below HR0_1.out HB.out)) HC0_1.out (tc (Kd.C_below HR0_2.out HB.out)) HC0_2.out (tc (Kd.C_below HR0_3.out HB.out)) HC0_3.out (tc (Kd.C_below HR0_4.out HB.out)) HC0_4.out (tc (Kd.C_below HR0_5.out HB.out)) HC0_5.out A8.out).mono ?_); rintro e w17 ⟨rfl, hb⟩; refine ⟨_, rfl, ?_⟩; replace BK101 := ba BK101.out hb; replace HB := Aside0.mk (below_step (tg1 HB.out GE101.out) hb); (try clear hb)))
    go_ret2
    exact ⟨te, tg1 HB.out GE101.out⟩
   ·rw [if_neg c7] at H
    have c7b0 : (t105 == 0) = false := beq_eq_false_iff_ne.mpr c7
    have c7b1 : (t105 != 0) = true := bne_iff_ne.mpr c7
    simp only [Option.some.injEq, Prod.mk.injEq] at H
    obtain ⟨rfl, rfl⟩ := H
    go_enter Tryd.func16, Tryd.ntmps16
    go_wp2_with (first | ((with_reducible refine gate_dst (N := 1) rfl ?_); refine box_event ?hg (N := 1) ?hd (cs := #[.string a0_0, .slice A0_1 l0_1.length c0_1, .slice A0_2 l0_2.length c0_2, .slice A0_3 l0_3.length c0_3, .slice A0_4 l0_4.length c0_4, .slice A0_5 l0_5.length c0_5]) (t := 26) ?hr ?_; (case hd => rfl); (case hg => rfl); (case hr => first | (go_simp; done) | (go_simp; rfl)); intro gb101 hg w18 hbox hb; have n0_ := Aside0.mk (below_step (tg HB.out) hb); have n1_ := Aside0.mk (hbox); have n2_ := Aside0.mk ((by rw [hg]; exact (below_size (tg HB.out)) : w.heap.size ≤ gb101)); have n3_ := Aside0.mk ((by rw [hg]; exact (below_size (tg HB.out)) : w.heap.size ≤ gb101)); clear HB; have HB := n0_; have BK101 := n1_; have GW101 := n2_; have GE101 := n3_; clear n0_ n1_ n2_ n3_; clear hb hbox hg; obtain ⟨hcz19_0, hcz19_1, hcz19_2, hcz19_3, hcz19_4, hcz19_5, hfz19_0, hfz19_1, hfz19_2, hfz19_3, hfz19_4, hfz19_5⟩ := cq6 BK101.out) | ((with_reducible refine gate_callee (f := 37) rfl ?_); refine goesL_ (some 9) rfl rfl Tryd.func37 (by kernel_rfl) rfl #[.agg #[.string a0_0, .slice A0_1 l0_1.length c0_1, .slice A0_2 l0_2.length c0_2, .slice A0_3 l0_3.length c0_3, .slice A0_4 l0_4.length c0_4, .slice A0_5 l0_5.length c0_5]] rfl tm ?_; (with_reducible refine (object_Check.calls k a0_0 _ _ l0_1 _ _ l0_2 _ _ l0_3 _ _ l0_4 _ _ l0_5 t102 _ (tc (Kd.C_below HR0_1.out HB.out)) HC0_1.out (tc (Kd.C_below HR0_2.out HB.out)) HC0_2.out (tc (Kd.C_below HR0_3.out HB.out)) HC0_3.out (tc (Kd.C_below HR0_4.out HB.out)) HC0_4.out (tc (Kd.C_below HR0_5.out HB.out)) HC0_5.out A2.out).mono ?_); rintro e w20 ⟨rfl, hb⟩; refine ⟨_, rfl, ?_⟩; replace BK101 := ba BK101.out hb; replace HB := Aside0.mk (below_step (tg1 HB.out GE101.out) hb); (try clear hb); obtain ⟨hcz21_0, hcz21_1, hcz21_2, hcz21_3, hcz21_4, hcz21_5, hfz21_0, hfz21_1, hfz21_2, hfz21_3, hfz21_4, hfz21_5⟩ := cq6 BK101.out) | ((with_reducible refine gate_callee (f := 38) rfl ?_); refine goesL_ (some 13) rfl rfl Tryd.func38 (by kernel_rfl) rfl #[.agg #[.string a0_0, .slice A0_1 l0_1.length c0_1, .slice A0_2 l0_2.length c0_2, .slice A0_3 l0_3.length c0_3, .slice A0_4 l0_4.length c0_4, .slice A0_5 l0_5.length c0_5]] rfl tm ?_; (with_reducible refine (valid_texts.calls k a0_0 _ _ l0_1 _ _ l0_2 _ _ l0_3 _ _ l0_4 _ _ l0_5 t103 t104 _ (by first | exact HG.out | exact Glob.below HG.out (tg1 HB.out GE101.out)) (tc (Kd.C_below HR0_1.out HB.out)) HC0_1.out (tc (Kd.C_below HR0_2.out HB.out)) HC0_2.out (tc (Kd.C_below HR0_3.out HB.out)) HC0_3.out (tc (Kd.C_below HR0_4.out HB.out)) HC0_4.out (tc (Kd.C_below HR0_5.out HB.out)) HC0_5.out A4.out).mono ?_); rintro e w22 ⟨rfl, hb⟩; refine ⟨_, rfl, ?_⟩; replace BK101 := ba BK101.out hb; replace HB := Aside0.mk (below_step (tg1 HB.out GE101.out) hb); (try clear hb); obtain ⟨hcz23_0, hcz23_1, hcz23_2, hcz23_3, hcz23_4, hcz23_5, hfz23_0, hfz23_1, hfz23_2, hfz23_3, hfz23_4, hfz23_5⟩ := cq6 BK101.out) | ((with_reducible refine gate_callee (f := 39) rfl ?_); refine goesL_ (some 22) rfl rfl Tryd.func39 (by kernel_rfl) rfl #[.agg #[.string a0_0, .slice A0_1 l0_1.length c0_1, .slice A0_2 l0_2.length c0_2, .slice A0_3 l0_3.length c0_3, .slice A0_4 l0_4.length c0_4, .slice A0_5 l0_5.length c0_5]] rfl tm ?_; (with_reducible refine (valid_words.calls k a0_0 _ _ l0_1 _ _ l0_2 _ _ l0_3 _ _ l0_4 _ _ l0_5 t105 t106 _ (tc (Kd.C_below HR0_1.out HB.out)) HC0_1.out (tc (Kd.C_below HR0_2.out HB.out)) HC0_2.out (tc (Kd.C_below HR0_3.out HB.out)) HC0_3.out (tc (Kd.C_below HR0_4.out HB.out)) HC0_4.out (tc (Kd.C_below HR0_5.out HB.out)) HC0_5.out A6.out).mono ?_); rintro e w24 ⟨rfl, hb⟩; refine ⟨_, rfl, ?_⟩; replace BK101 := ba BK101.out hb; replace HB := Aside0.mk (below_step (tg1 HB.out GE101.out) hb); (try clear hb)))
    go_ret2
    exact ⟨te, tg1 HB.out GE101.out⟩
  ·rw [if_neg c5] at H
   have c5b0 : (t103 == 0) = false := beq_eq_false_iff_ne.mpr c5
   have c5b1 : (t103 != 0) = true := bne_iff_ne.mpr c5
   simp only [Option.some.injEq, Prod.mk.injEq] at H
   obtain ⟨rfl, rfl⟩ := H
   go_enter Tryd.func16, Tryd.ntmps16
   go_wp2_with (first | ((with_reducible refine gate_dst (N := 1) rfl ?_); refine box_event ?hg (N := 1) ?hd (cs := #[.string a0_0, .slice A0_1 l0_1.length c0_1, .slice A0_2 l0_2.length c0_2, .slice A0_3 l0_3.length c0_3, .slice A0_4 l0_4.length c0_4, .slice A0_5 l0_5.length c0_5]) (t := 26) ?hr ?_; (case hd => rfl); (case hg => rfl); (case hr => first | (go_simp; done) | (go_simp; rfl)); intro gb101 hg w25 hbox hb; have n0_ := Aside0.mk (below_step (tg HB.out) hb); have n1_ := Aside0.mk (hbox); have n2_ := Aside0.mk ((by rw [hg]; exact (below_size (tg HB.out)) : w.heap.size ≤ gb101)); have n3_ := Aside0.mk ((by rw [hg]; exact (below_size (tg HB.out)) : w.heap.size ≤ gb101)); clear HB; have HB := n0_; have BK101 := n1_; have GW101 := n2_; have GE101 := n3_; clear n0_ n1_ n2_ n3_; clear hb hbox hg; obtain ⟨hcz26_0, hcz26_1, hcz26_2, hcz26_3, hcz26_4, hcz26_5, hfz26_0, hfz26_1, hfz26_2, hfz26_3, hfz26_4, hfz26_5⟩ := cq6 BK101.out) | ((with_reducible refine gate_callee (f := 37) rfl ?_); refine goesL_ (some 9) rfl rfl Tryd.func37 (by kernel_rfl) rfl #[.agg #[.string a0_0, .slice A0_1 l0_1.length c0_1, .slice A0_2 l0_2.length c0_2, .slice A0_3 l0_3.length c0_3, .slice A0_4 l0_4.length c0_4, .slice A0_5 l0_5.length c0_5]] rfl tm ?_; (with_reducible refine (object_Check.calls k a0_0 _ _ l0_1 _ _ l0_2 _ _ l0_3 _ _ l0_4 _ _ l0_5 t102 _ (tc (Kd.C_below HR0_1.out HB.out)) HC0_1.out (tc (Kd.C_below HR0_2.out HB.out)) HC0_2.out (tc (Kd.C_below HR0_3.out HB.out)) HC0_3.out (tc (Kd.C_below HR0_4.out HB.out)) HC0_4.out (tc (Kd.C_below HR0_5.out HB.out)) HC0_5.out A2.out).mono ?_); rintro e w27 ⟨rfl, hb⟩; refine ⟨_, rfl, ?_⟩; replace BK101 := ba BK101.out hb; replace HB := Aside0.mk (below_step (tg1 HB.out GE101.out) hb); (try clear hb); obtain ⟨hcz28_0, hcz28_1, hcz28_2, hcz28_3, hcz28_4, hcz28_5, hfz28_0, hfz28_1, hfz28_2, hfz28_3, hfz28_4, hfz28_5⟩ := cq6 BK101.out) | ((with_reducible refine gate_callee (f := 38) rfl ?_); refine goesL_ (some 13) rfl rfl Tryd.func38 (by kernel_rfl) rfl #[.agg #[.string a0_0, .slice A0_1 l0_1.length c0_1, .slice A0_2 l0_2.length c0_2, .slice A0_3 l0_3.length c0_3, .slice A0_4 l0_4.length c0_4, .slice A0_5 l0_5.length c0_5]] rfl tm ?_; (with_reducible refine (valid_texts.calls k a0_0 _ _ l0_1 _ _ l0_2 _ _ l0_3 _ _ l0_4 _ _ l0_5 t103 t104 _ (by first | exact HG.out | exact Glob.below HG.out (tg1 HB.out GE101.out)) (tc (Kd.C_below HR0_1.out HB.out)) HC0_1.out (tc (Kd.C_below HR0_2.out HB.out)) HC0_2.out (tc (Kd.C_below HR0_3.out HB.out)) HC0_3.out (tc (Kd.C_below HR0_4.out HB.out)) HC0_4.out (tc (Kd.C_below HR0_5.out HB.out)) HC0_5.out A4.out).mono ?_); rintro e w29 ⟨rfl, hb⟩; refine ⟨_, rfl, ?_⟩; replace BK101 := ba BK101.out hb; replace HB := Aside0.mk (below_step (tg1 HB.out GE101.out) hb); (try clear hb)))
   go_ret2
   exact ⟨te, tg1 HB.out GE101.out⟩
 ·rw [if_neg c3] at H
  have c3b0 : (t102 == 0) = false := beq_eq_false_iff_ne.mpr c3
  have c3b1 : (t102 != 0) = true := bne_iff_ne.mpr c3
  simp only [Option.some.injEq, Prod.mk.injEq] at H
  obtain ⟨rfl, rfl⟩ := H
  go_enter Tryd.func16, Tryd.ntmps16
  go_wp2_with (first | ((with_reducible refine gate_dst (N := 1) rfl ?_); refine box_event ?hg (N := 1) ?hd (cs := #[.string a0_0, .slice A0_1 l0_1.length c0_1, .slice A0_2 l0_2.length c0_2, .slice A0_3 l0_3.length c0_3, .slice A0_4 l0_4.length c0_4, .slice A0_5 l0_5.length c0_5]) (t := 26) ?hr ?_; (case hd => rfl); (case hg => rfl); (case hr => first | (go_simp; done) | (go_simp; rfl)); intro gb101 hg w30 hbox hb; have n0_ := Aside0.mk (below_step (tg HB.out) hb); have n1_ := Aside0.mk (hbox); have n2_ := Aside0.mk ((by rw [hg]; exact (below_size (tg HB.out)) : w.heap.size ≤ gb101)); have n3_ := Aside0.mk ((by rw [hg]; exact (below_size (tg HB.out)) : w.heap.size ≤ gb101)); clear HB; have HB := n0_; have BK101 := n1_; have GW101 := n2_; have GE101 := n3_; clear n0_ n1_ n2_ n3_; clear hb hbox hg; obtain ⟨hcz31_0, hcz31_1, hcz31_2, hcz31_3, hcz31_4, hcz31_5, hfz31_0, hfz31_1, hfz31_2, hfz31_3, hfz31_4, hfz31_5⟩ := cq6 BK101.out) | ((with_reducible refine gate_callee (f := 37) rfl ?_); refine goesL_ (some 9) rfl rfl Tryd.func37 (by kernel_rfl) rfl #[.agg #[.string a0_0, .slice A0_1 l0_1.length c0_1, .slice A0_2 l0_2.length c0_2, .slice A0_3 l0_3.length c0_3, .slice A0_4 l0_4.length c0_4, .slice A0_5 l0_5.length c0_5]] rfl tm ?_; (with_reducible refine (object_Check.calls k a0_0 _ _ l0_1 _ _ l0_2 _ _ l0_3 _ _ l0_4 _ _ l0_5 t102 _ (tc (Kd.C_below HR0_1.out HB.out)) HC0_1.out (tc (Kd.C_below HR0_2.out HB.out)) HC0_2.out (tc (Kd.C_below HR0_3.out HB.out)) HC0_3.out (tc (Kd.C_below HR0_4.out HB.out)) HC0_4.out (tc (Kd.C_below HR0_5.out HB.out)) HC0_5.out A2.out).mono ?_); rintro e w32 ⟨rfl, hb⟩; refine ⟨_, rfl, ?_⟩; replace BK101 := ba BK101.out hb; replace HB := Aside0.mk (below_step (tg1 HB.out GE101.out) hb); (try clear hb)))
  go_ret2
  exact ⟨te, tg1 HB.out GE101.out⟩

end Go.Proofs.YtiphindialkmnaaDoor.X
end
section
namespace Go.Proofs.YtiphindialkmnaaDoor.X
open Go.RowKit Go.Proofs.YtiphindialkmnaaDoorW.PrintWords Go.Proofs.YtiphindialkmnaaDoorW.PrintLast Go.Proofs.YtiphindialkmnaaDoorW.PrintMore
attribute [local go_sem] max2_int min2_int max_two min_two max_three min_three max_four min_four
set_option linter.unusedVariables false
set_option linter.unusedSimpArgs false

/-! ### valid_Check: function 18 -/
def valid_Check.f (k : Nat) (a0_0 : ByteArray) (l0_1 : List ByteArray) (l0_2 : List ByteArray) (l0_3 : List Int) (l0_4 : List Int) (l0_5 : List (S43)) : Option (Int) := (valid_Module.f k a0_0 l0_1 l0_2 l0_3 l0_4 l0_5).bind fun bt102 => (if bt102.1 = 0 then (some 0) else (some 20))
theorem valid_Check.mono : ∀ a0 a1 a2 a3 a4 a5 k, LeO (valid_Check.f k a0 a1 a2 a3 a4 a5) (valid_Check.f (k + 1) a0 a1 a2 a3 a4 a5) := by
 intro a0 a1 a2 a3 a4 a5 k
 unfold valid_Check.f
 repeat' first
   | (with_reducible exact valid_Module.mono _ _ _ _ _ _ _)
   | (with_reducible exact LeO.refl _)
   | (with_reducible exact LeO.none _)
   | (with_reducible refine LeO.ite ?_ ?_)
   | (with_reducible refine LeO.bind ?_ (fun _ => ?_))
set_option maxHeartbeats 8000000 in
set_option maxRecDepth 100000 in
theorem valid_Check.calls (k : Nat) (a0_0 : ByteArray) (A0_1 : Option Addr) (c0_1 : Nat) (l0_1 : List ByteArray) (A0_2 : Option Addr) (c0_2 : Nat) (l0_2 : List ByteArray) (A0_3 : Option Addr) (c0_3 : Nat) (l0_3 : List Int) (A0_4 : Option Addr) (c0_4 : Nat) (l0_4 : List Int) (A0_5 : Option Addr) (c0_5 : Nat) (l0_5 : List (S43)) (r : Int) (w : World) (hG : Glob w) (hr0_1 : Kd.C Kd.string w A0_1 l0_1.length l0_1) (hc0_1 : l0_1.length ≤ c0_1) (hr0_2 : Kd.C Kd.string w A0_2 l0_2.length l0_2) (hc0_2 : l0_2.length ≤ c0_2) (hr0_3 : Kd.C (Kd.int .u32) w A0_3 l0_3.length l0_3) (hc0_3 : l0_3.length ≤ c0_3) (hr0_4 : Kd.C (Kd.int .u32) w A0_4 l0_4.length l0_4) (hc0_4 : l0_4.length ≤ c0_4) (hr0_5 : Kd.C k43 w A0_5 l0_5.length l0_5) (hc0_5 : l0_5.length ≤ c0_5) (h : valid_Check.f k a0_0 l0_1 l0_2 l0_3 l0_4 l0_5 = some r) :
  Calls Tryd.prog 18 #[.agg #[.string a0_0, .slice A0_1 l0_1.length c0_1, .slice A0_2 l0_2.length c0_2, .slice A0_3 l0_3.length c0_3, .slice A0_4 l0_4.length c0_4, .slice A0_5 l0_5.length c0_5]] w fun e w' => e = .returned (.int .i64 r) ∧ Below w.heap.size w w' := by
 have hu26 := Tryd.underlying26
 have HR0_1 := Aside0.mk hr0_1
 have HC0_1 := Aside0.mk hc0_1
 clear hr0_1 hc0_1
 have HR0_2 := Aside0.mk hr0_2
 have HC0_2 := Aside0.mk hc0_2
 clear hr0_2 hc0_2
 have HR0_3 := Aside0.mk hr0_3
 have HC0_3 := Aside0.mk hc0_3
 clear hr0_3 hc0_3
 have HR0_4 := Aside0.mk hr0_4
 have HC0_4 := Aside0.mk hc0_4
 clear hr0_4 hc0_4
 have HR0_5 := Aside0.mk hr0_5
 have HC0_5 := Aside0.mk hc0_5
 clear hr0_5 hc0_5
 have HG := Aside0.mk hG
 clear hG
 have HB := Aside0.mk (Below.refl w.heap.size w)
 have H : ((valid_Module.f k a0_0 l0_1 l0_2 l0_3 l0_4 l0_5).bind fun bt102 => (if bt102.1 = 0 then (some 0) else (some 20))) = some r := h
 clear h
 replace H := Option.bind_eq_some_iff.mp H
 obtain ⟨⟨t102, t103⟩, A20, H⟩ := H
 replace H : (if t102 = 0 then (some 0) else (some 20)) = some r := H
 have A2 := Aside0.mk A20
 clear A20
 by_cases c3 : t102 = 0
 ·rw [if_pos c3] at H
  have c3b0 : (t102 == 0) = true := beq_iff_eq.mpr c3
  have c3b1 : (t102 != 0) = false := bne_eq_false_iff_eq.mpr c3
  clear c3
  obtain rfl := Option.some.inj H
  go_enter Tryd.func18, Tryd.ntmps18
  go_wp2_with (first | ((with_reducible refine gate_dst (N := 1) rfl ?_); refine box_event ?hg (N := 1) ?hd (cs := #[.string a0_0, .slice A0_1 l0_1.length c0_1, .slice A0_2 l0_2.length c0_2, .slice A0_3 l0_3.length c0_3, .slice A0_4 l0_4.length c0_4, .slice A0_5 l0_5.length c0_5]) (t := 26) ?hr ?_; (case hd => rfl); (case hg => rfl); (case hr => first | (go_simp; done) | (go_simp; rfl)); intro gb101 hg w4 hbox hb; have n0_ := Aside0.mk (below_step (tg HB.out) hb); have n1_ := Aside0.mk (hbox); have n2_ := Aside0.mk ((by rw [hg]; exact (below_size (tg HB.out)) : w.heap.size ≤ gb101)); have n3_ := Aside0.mk ((by rw [hg]; exact (below_size (tg HB.out)) : w.heap.size ≤ gb101)); clear HB; have HB := n0_; have BK101 := n1_; have GW101 := n2_; have GE101 := n3_; clear n0_ n1_ n2_ n3_; clear hb hbox hg; obtain ⟨hcz5_0, hcz5_1, hcz5_2, hcz5_3, hcz5_4, hcz5_5, hfz5_0, hfz5_1, hfz5_2, hfz5_3, hfz5_4, hfz5_5⟩ := cq6 BK101.out) | ((with_reducible refine gate_callee (f := 16) rfl ?_); refine goesL_ (some 7) rfl rfl Tryd.func16 (by kernel_rfl) rfl #[.agg #[.string a0_0, .slice A0_1 l0_1.length c0_1, .slice A0_2 l0_2.length c0_2, .slice A0_3 l0_3.length c0_3, .slice A0_4 l0_4.length c0_4, .slice A0_5 l0_5.length c0_5]] rfl tm ?_; (with_reducible refine (valid_Module.calls k a0_0 _ _ l0_1 _ _ l0_2 _ _ l0_3 _ _ l0_4 _ _ l0_5 t102 t103 _ (by first | exact HG.out | exact Glob.below HG.out (tg1 HB.out GE101.out)) (tc (Kd.C_below HR0_1.out HB.out)) HC0_1.out (tc (Kd.C_below HR0_2.out HB.out)) HC0_2.out (tc (Kd.C_below HR0_3.out HB.out)) HC0_3.out (tc (Kd.C_below HR0_4.out HB.out)) HC0_4.out (tc (Kd.C_below HR0_5.out HB.out)) HC0_5.out A2.out).mono ?_); rintro e w6 ⟨rfl, hb⟩; refine ⟨_, rfl, ?_⟩; replace BK101 := ba BK101.out hb; replace HB := Aside0.mk (below_step (tg1 HB.out GE101.out) hb); (try clear hb)))
  go_ret
  exact ⟨te, tg1 HB.out GE101.out⟩
 ·rw [if_neg c3] at H
  have c3b0 : (t102 == 0) = false := beq_eq_false_iff_ne.mpr c3
  have c3b1 : (t102 != 0) = true := bne_iff_ne.mpr c3
  obtain rfl := Option.some.inj H
  go_enter Tryd.func18, Tryd.ntmps18
  go_wp2_with (first | ((with_reducible refine gate_dst (N := 1) rfl ?_); refine box_event ?hg (N := 1) ?hd (cs := #[.string a0_0, .slice A0_1 l0_1.length c0_1, .slice A0_2 l0_2.length c0_2, .slice A0_3 l0_3.length c0_3, .slice A0_4 l0_4.length c0_4, .slice A0_5 l0_5.length c0_5]) (t := 26) ?hr ?_; (case hd => rfl); (case hg => rfl); (case hr => first | (go_simp; done) | (go_simp; rfl)); intro gb101 hg w7 hbox hb; have n0_ := Aside0.mk (below_step (tg HB.out) hb); have n1_ := Aside0.mk (hbox); have n2_ := Aside0.mk ((by rw [hg]; exact (below_size (tg HB.out)) : w.heap.size ≤ gb101)); have n3_ := Aside0.mk ((by rw [hg]; exact (below_size (tg HB.out)) : w.heap.size ≤ gb101)); clear HB; have HB := n0_; have BK101 := n1_; have GW101 := n2_; have GE101 := n3_; clear n0_ n1_ n2_ n3_; clear hb hbox hg; obtain ⟨hcz8_0, hcz8_1, hcz8_2, hcz8_3, hcz8_4, hcz8_5, hfz8_0, hfz8_1, hfz8_2, hfz8_3, hfz8_4, hfz8_5⟩ := cq6 BK101.out) | ((with_reducible refine gate_callee (f := 16) rfl ?_); refine goesL_ (some 7) rfl rfl Tryd.func16 (by kernel_rfl) rfl #[.agg #[.string a0_0, .slice A0_1 l0_1.length c0_1, .slice A0_2 l0_2.length c0_2, .slice A0_3 l0_3.length c0_3, .slice A0_4 l0_4.length c0_4, .slice A0_5 l0_5.length c0_5]] rfl tm ?_; (with_reducible refine (valid_Module.calls k a0_0 _ _ l0_1 _ _ l0_2 _ _ l0_3 _ _ l0_4 _ _ l0_5 t102 t103 _ (by first | exact HG.out | exact Glob.below HG.out (tg1 HB.out GE101.out)) (tc (Kd.C_below HR0_1.out HB.out)) HC0_1.out (tc (Kd.C_below HR0_2.out HB.out)) HC0_2.out (tc (Kd.C_below HR0_3.out HB.out)) HC0_3.out (tc (Kd.C_below HR0_4.out HB.out)) HC0_4.out (tc (Kd.C_below HR0_5.out HB.out)) HC0_5.out A2.out).mono ?_); rintro e w9 ⟨rfl, hb⟩; refine ⟨_, rfl, ?_⟩; replace BK101 := ba BK101.out hb; replace HB := Aside0.mk (below_step (tg1 HB.out GE101.out) hb); (try clear hb)))
  go_ret
  exact ⟨te, tg1 HB.out GE101.out⟩

end Go.Proofs.YtiphindialkmnaaDoor.X
end
section
namespace Go.Proofs.YtiphindialkmnaaDoor.X
open Go.RowKit Go.Proofs.YtiphindialkmnaaDoorW.PrintWords Go.Proofs.YtiphindialkmnaaDoorW.PrintLast Go.Proofs.YtiphindialkmnaaDoorW.PrintMore
set_option linter.unusedSimpArgs false
set_option linter.unusedVariables false
theorem rd_nat (l : List Int) (i : Nat) : rd l (i : Int) = l.getD i 0 := by simp [rd]
theorem rdT_nat (l : List S43) (i : Nat) : rd_T43 l (i : Int) = l.getD i z43 := by simp [rd_T43]
/-! bounds -/
def objOk (a0 : ByteArray) (l1 l2 : List ByteArray) (l3 l4 : List Int) (l5 : List S43) : Prop :=
  l1.length ≤ 8 ∧ l2.length ≤ 16 ∧ l5.length ≤ 256 ∧ l3.length ≤ 512 ∧ l4.length ≤ 128 ∧ a0.size ≤ 96 ∧ (∀ s ∈ l1, s.size ≤ 96) ∧ (∀ s ∈ l2, s.size ≤ 96) ∧ ∀ r ∈ l5, r.f0 ≤ 7
noncomputable instance objDec (a0 : ByteArray) (l1 l2 : List ByteArray) (l3 l4 : List Int) (l5 : List S43) : Decidable (objOk a0 l1 l2 l3 l4 l5) := Classical.propDecidable _
theorem long_l (l : List ByteArray) (hl : l.length ≤ 4000) : ∀ (d i k : Nat), i + d = l.length → d < k → ∃ r, IndexFunc_long.l0 k l (l.length : Int) (i : Int) = some r ∧ (r ≥ 0 ↔ ∃ j, i ≤ j ∧ j < l.length ∧ (l.getD j ByteArray.empty).size > 96) := by
  intro d
  induction d with
  | zero =>
    intro i k h1 h2
    obtain ⟨k, rfl⟩ : ∃ k', k = k' + 1 := ⟨k - 1, by omega⟩
    simp only [IndexFunc_long.l0]
    rw [if_neg (by omega)]
    exact ⟨_, rfl, ⟨fun h => by omega, fun ⟨j, h3, h4, _⟩ => by omega⟩⟩
  | succ d ih =>
    intro i k h1 h2
    obtain ⟨k, rfl⟩ : ∃ k', k = k' + 1 := ⟨k - 1, by omega⟩
    simp only [IndexFunc_long.l0, object_Check_1.f, Option.bind_some]
    rw [if_pos (by omega), if_pos (by omega), if_pos (by omega), rdOf_nat, w64 _ (by omega)]
    by_cases e : (l.getD i ByteArray.empty).size > 96
    · rw [if_pos (decide_eq_true (by omega))]
      exact ⟨_, rfl, ⟨fun _ => ⟨i, Nat.le_refl _, by omega, e⟩, fun _ => by omega⟩⟩
    · rw [if_neg (fun h => e (by have := of_decide_eq_true h; omega))]
      obtain ⟨r, hr1, hr2⟩ := ih (i + 1) k (by omega) (by omega)
      refine ⟨r, by simpa using hr1, ?_⟩
      rw [hr2]
      constructor
      · rintro ⟨j, h3, h4, h5⟩; exact ⟨j, by omega, h4, h5⟩
      · rintro ⟨j, h3, h4, h5⟩
        by_cases hj : j = i
        · subst hj; exact absurd h5 e
        · exact ⟨j, by omega, h4, h5⟩
theorem long_law (l : List ByteArray) (hl : l.length ≤ 4000) (k : Nat) (hk : l.length < k) : ∃ b, ContainsFunc_long.f k l () = some b ∧ (b = false ↔ ∀ s ∈ l, s.size ≤ 96) := by
  unfold ContainsFunc_long.f IndexFunc_long.f
  obtain ⟨r, h1, h2⟩ := long_l l hl l.length 0 k (by omega) hk
  have h1 : IndexFunc_long.l0 k l (l.length : Int) 0 = some r := h1
  rw [h1]
  refine ⟨_, rfl, ?_⟩
  rw [decide_eq_false_iff_not, h2]
  constructor
  · intro h s hs
    obtain ⟨j, hj, e⟩ := List.getElem_of_mem hs
    by_cases hc : s.size ≤ 96
    · exact hc
    · exact absurd ⟨j, Nat.zero_le _, hj, by rw [List.getD_eq_getElem?_getD, List.getElem?_eq_getElem hj, e]; show s.size > 96; omega⟩ h
  · rintro h ⟨j, _, hj, h3⟩
    have := h _ (getD_mem ByteArray.empty hj)
    omega
theorem kind_l (l : List S43) (hl : l.length ≤ 4000) : ∀ (d i k : Nat), i + d = l.length → d < k → ∃ r, IndexFunc_kind.l0 k l (l.length : Int) (i : Int) = some r ∧ (r ≥ 0 ↔ ∃ j, i ≤ j ∧ j < l.length ∧ (l.getD j z43).f0 > 7) := by
  intro d
  induction d with
  | zero =>
    intro i k h1 h2
    obtain ⟨k, rfl⟩ : ∃ k', k = k' + 1 := ⟨k - 1, by omega⟩
    simp only [IndexFunc_kind.l0]
    rw [if_neg (by omega)]
    exact ⟨_, rfl, ⟨fun h => by omega, fun ⟨j, h3, h4, _⟩ => by omega⟩⟩
  | succ d ih =>
    intro i k h1 h2
    obtain ⟨k, rfl⟩ : ∃ k', k = k' + 1 := ⟨k - 1, by omega⟩
    simp only [IndexFunc_kind.l0, object_Check_2.f, Option.bind_some]
    rw [if_pos (by omega), if_pos (by omega), if_pos (by omega), rdT_nat, w64 _ (by omega)]
    by_cases e : (l.getD i z43).f0 > 7
    · rw [if_pos (decide_eq_true e)]
      exact ⟨_, rfl, ⟨fun _ => ⟨i, Nat.le_refl _, by omega, e⟩, fun _ => by omega⟩⟩
    · rw [if_neg (fun h => e (of_decide_eq_true h))]
      obtain ⟨r, hr1, hr2⟩ := ih (i + 1) k (by omega) (by omega)
      refine ⟨r, by simpa using hr1, ?_⟩
      rw [hr2]
      constructor
      · rintro ⟨j, h3, h4, h5⟩; exact ⟨j, by omega, h4, h5⟩
      · rintro ⟨j, h3, h4, h5⟩
        by_cases hj : j = i
        · subst hj; exact absurd h5 e
        · exact ⟨j, by omega, h4, h5⟩
theorem kind_law (l : List S43) (hl : l.length ≤ 4000) (k : Nat) (hk : l.length < k) : ∃ b, ContainsFunc_kind.f k l () = some b ∧ (b = false ↔ ∀ s ∈ l, s.f0 ≤ 7) := by
  unfold ContainsFunc_kind.f IndexFunc_kind.f
  obtain ⟨r, h1, h2⟩ := kind_l l hl l.length 0 k (by omega) hk
  have h1 : IndexFunc_kind.l0 k l (l.length : Int) 0 = some r := h1
  rw [h1]
  refine ⟨_, rfl, ?_⟩
  rw [decide_eq_false_iff_not, h2]
  constructor
  · intro h s hs
    obtain ⟨j, hj, e⟩ := List.getElem_of_mem hs
    by_cases hc : s.f0 ≤ 7
    · exact hc
    · exact absurd ⟨j, Nat.zero_le _, hj, by rw [List.getD_eq_getElem?_getD, List.getElem?_eq_getElem hj, e]; show s.f0 > 7; omega⟩ h
  · rintro h ⟨j, _, hj, h3⟩
    have := h _ (getD_mem z43 hj)
    omega
theorem object_law (k : Nat) (a0 : ByteArray) (l1 l2 : List ByteArray) (l3 l4 : List Int) (l5 : List S43) (h1 : l1.length ≤ 4000) (h2 : l2.length ≤ 4000) (h5 : l5.length ≤ 4000) (hk : 4004 ≤ k) :
    ∃ e, object_Check.f k a0 l1 l2 l3 l4 l5 = some e ∧ (e = 0 ↔ objOk a0 l1 l2 l3 l4 l5) := by
  obtain ⟨k, rfl⟩ : ∃ k', k = k' + 3 := ⟨k - 3, by omega⟩
  obtain ⟨b1, e1, i1⟩ := long_law l1 h1 (k + 1) (by omega)
  obtain ⟨b2, e2, i2⟩ := long_law l2 h2 (k + 1) (by omega)
  obtain ⟨b3, e3, i3⟩ := kind_law l5 h5 k (by omega)
  unfold object_Check.f
  simp only [object_Check.j0, object_Check.j1, object_Check.j2, object_Check_1.f, e1, e2, e3, Option.bind_some, if_true]
  unfold objOk
  rw [← i1, ← i2, ← i3]
  by_cases c1 : (l1.length : Int) > 8
  · rw [if_pos c1]; exact ⟨5, rfl, ⟨fun h => (by cases h), fun h => (by omega)⟩⟩
  rw [if_neg c1]
  by_cases c2 : (l2.length : Int) > 16
  · rw [if_pos c2]; exact ⟨5, rfl, ⟨fun h => (by cases h), fun h => (by omega)⟩⟩
  rw [if_neg c2]
  by_cases c3 : (l5.length : Int) > 256
  · rw [if_pos (decide_eq_true c3)]; exact ⟨5, rfl, ⟨fun h => (by cases h), fun h => (by omega)⟩⟩
  rw [if_neg (fun h => c3 (of_decide_eq_true h))]
  by_cases c4 : (l3.length : Int) > 512
  · rw [if_pos c4]; exact ⟨5, rfl, ⟨fun h => (by cases h), fun h => (by omega)⟩⟩
  rw [if_neg c4]
  by_cases c5 : (l4.length : Int) > 128
  · rw [if_pos (decide_eq_true c5)]; exact ⟨5, rfl, ⟨fun h => (by cases h), fun h => (by omega)⟩⟩
  rw [if_neg (fun h => c5 (of_decide_eq_true h))]
  by_cases c6 : (a0.size : Int) > 96
  · rw [if_pos (decide_eq_true c6)]; exact ⟨5, rfl, ⟨fun h => (by cases h), fun h => (by omega)⟩⟩
  rw [if_neg (fun h => c6 (of_decide_eq_true h))]
  cases b1
  case true => exact ⟨5, by simp, ⟨fun h => (by cases h), fun h => (by have := h.2.2.2.2.2.2.1; cases this)⟩⟩
  cases b2
  case true => exact ⟨5, by simp, ⟨fun h => (by cases h), fun h => (by have := h.2.2.2.2.2.2.2.1; cases this)⟩⟩
  cases b3
  case true => exact ⟨2, by simp, ⟨fun h => (by cases h), fun h => (by have := h.2.2.2.2.2.2.2.2; cases this)⟩⟩
  exact ⟨0, by simp, ⟨fun _ => ⟨by omega, by omega, by omega, by omega, by omega, by omega, rfl, rfl, rfl⟩, fun _ => rfl⟩⟩
/-! words -/
def badWord (l : List Int) (i : Nat) : Bool := decide ((dec (l.getD i 0)).2.2.2.2.2 ≠ 0 ∨ (dec (l.getD i 0)).1 = 21)
def vWords (l1 : List ByteArray) (l3 : List Int) : Int × Int :=
  if l3.length = 0 ∨ l3.length < l1.length then (4, 0) else match first (badWord l3) l3.length 0 with
    | some i => (5, (i : Int))
    | none => (0, 0)
theorem words_l (l : List Int) (hl : l.length ≤ 4000) : ∀ (d i k : Nat), i + d = l.length → d + 4 < k → valid_words.l0 k l (l.length : Int) (i : Int) = some (match first (badWord l) d i with | some j => (5, (j : Int)) | none => (0, 0)) := by
  intro d
  induction d with
  | zero =>
    intro i k h1 h2
    obtain ⟨k, rfl⟩ : ∃ k', k = k' + 1 := ⟨k - 1, by omega⟩
    simp only [valid_words.l0, first]
    rw [if_neg (by omega)]
  | succ d ih =>
    intro i k h1 h2
    obtain ⟨k, rfl⟩ : ∃ k', k = k' + 1 := ⟨k - 1, by omega⟩
    simp only [valid_words.l0, first]
    rw [if_pos (by omega), if_pos (by omega), if_pos (by omega), rd_nat, w64 _ (by omega), dec_at (by omega)]
    simp only [Option.bind_some]
    by_cases e : (dec (l.getD i 0)).2.2.2.2.2 = 0
    · rw [if_pos e]
      by_cases e2 : (dec (l.getD i 0)).1 = 21
      · have eb : badWord l i = true := decide_eq_true (.inr e2)
        rw [if_pos e2, if_pos eb]
      · have eb : ¬ badWord l i = true := fun h => (of_decide_eq_true h).elim (fun h => h e) e2
        rw [if_neg e2, if_neg eb]
        exact ih (i + 1) k (by omega) (by omega)
    · have eb : badWord l i = true := decide_eq_true (.inl e)
      rw [if_neg e, if_pos eb]
theorem words_law (k : Nat) (a0 : ByteArray) (l1 l2 : List ByteArray) (l3 l4 : List Int) (l5 : List S43) (hl : l3.length ≤ 4000) (hk : l3.length + 6 ≤ k) : valid_words.f k a0 l1 l2 l3 l4 l5 = some (vWords l1 l3) := by
  obtain ⟨k, rfl⟩ : ∃ k', k = k' + 1 := ⟨k - 1, by omega⟩
  unfold valid_words.f vWords
  simp only [valid_words.j0, if_true]
  have h0 := words_l l3 hl l3.length 0 k (by omega) (by omega)
  have h0 : valid_words.l0 k l3 (l3.length : Int) 0 = _ := h0
  rw [h0]
  by_cases c : (l3.length : Int) = 0
  · rw [if_pos c, if_pos (.inl (by omega))]
  · rw [if_neg c]
    by_cases c2 : (l3.length : Int) < l1.length
    · rw [if_pos (decide_eq_true c2), if_pos (.inr (by omega))]
    · rw [if_neg (fun h => c2 (of_decide_eq_true h)), if_neg (by omega)]
/-! relocations -/
def isCode (k : Int) : Bool := !(decide (k = 4) || decide (k = 5) || decide (k = 6))
def spot (r : S43) : Bool × Int := (isCode r.f0, r.f1)
theorem of_law (a b c : Int) : valid_of.f a b c = some (isCode a, b) := by
  unfold valid_of.f isCode
  by_cases h4 : a = 4
  · simp [h4]
  · by_cases h5 : a = 5
    · simp [h5]
    · simp [h4, h5]
      by_cases h6 : a = 6 <;> simp [h6]
noncomputable def badPlace (l3 l4 : List Int) (l5 : List S43) (i : Nat) : Bool :=
  decide (∃ j, j < i ∧ spot (l5.getD j z43) = spot (l5.getD i z43)) || decide ((l5.getD i z43).f1 ≥ (if isCode (l5.getD i z43).f0 = true then (l3.length : Int) else (l4.length : Int)))
theorem relA_law (l3 l4 : List Int) (l : List S43) (hw : ∀ x ∈ l, 0 ≤ x.f1 ∧ x.f1 ≤ 65535) : ∀ (d i : Nat) (s : List (Bool × Int)), i + d = l.length → (∀ x, x ∈ s ↔ ∃ j, j < i ∧ spot (l.getD j z43) = x) →
    ∃ s', relA l3 l4 l d i s = some (match first (badPlace l3 l4 l) d i with | some j => .inl (j : Int) | none => .inr s') ∧ ∀ x, x ∈ s' ↔ ∃ j, j < l.length ∧ spot (l.getD j z43) = x := by
  intro d
  induction d with
  | zero =>
    intro i s h hs
    refine ⟨s, rfl, ?_⟩
    have : i = l.length := by omega
    subst this
    exact hs
  | succ d ih =>
    intro i s h hs
    have hi : i < l.length := by omega
    have hwi := hw _ (getD_mem z43 hi)
    simp only [relA, first]
    rw [if_pos hi, rdT_nat, of_law]
    simp only [Option.bind_some]
    rw [if_pos ⟨hwi.1, hwi.2, hwi.1, hwi.2⟩]
    have hmem : (isCode (l.getD i z43).f0, (l.getD i z43).f1) ∈ s ↔ ∃ j, j < i ∧ spot (l.getD j z43) = spot (l.getD i z43) := hs _
    have hnext : ∀ x, x ∈ (isCode (l.getD i z43).f0, (l.getD i z43).f1) :: s ↔ ∃ j, j < i + 1 ∧ spot (l.getD j z43) = x := by
      intro x
      rw [List.mem_cons, hs]
      constructor
      · rintro (rfl | ⟨j, h1, h2⟩)
        · exact ⟨i, by omega, rfl⟩
        · exact ⟨j, by omega, h2⟩
      · rintro ⟨j, h1, h2⟩
        by_cases hj : j = i
        · subst hj; exact .inl h2.symm
        · exact .inr ⟨j, by omega, h2⟩
    obtain ⟨s', hs1, hs2⟩ := ih (i + 1) _ (by omega) hnext
    refine ⟨s', ?_, hs2⟩
    by_cases c1 : (isCode (l.getD i z43).f0, (l.getD i z43).f1) ∈ s
    · have eb : badPlace l3 l4 l i = true := by
        unfold badPlace
        rw [Bool.or_eq_true]
        exact .inl (decide_eq_true (hmem.1 c1))
      rw [if_pos c1, if_pos eb]
    · rw [if_neg c1]
      by_cases c2 : (l.getD i z43).f1 ≥ (if isCode (l.getD i z43).f0 = true then (l3.length : Int) else (l4.length : Int))
      · have eb : badPlace l3 l4 l i = true := by
          unfold badPlace
          rw [Bool.or_eq_true]
          exact .inr (decide_eq_true c2)
        rw [if_pos c2, if_pos eb]
      · have eb : ¬ badPlace l3 l4 l i = true := by
          unfold badPlace
          rw [Bool.or_eq_true]
          rintro (h | h)
          · exact c1 (hmem.2 (of_decide_eq_true h))
          · exact c2 (of_decide_eq_true h)
        rw [if_neg c2, if_neg eb]
        exact hs1
theorem idxF_law (p : S43 → Option Bool) (q : S43 → Bool) (l : List S43) (h : ∀ x ∈ l, p x = some (q x)) : ∀ (d i : Nat), i + d = l.length → idxF p l d i = some (optI (first (fun i => q (l.getD i z43)) d i))
  | 0, i, _ => rfl
  | d + 1, i, hd => by
    simp only [idxF, first]
    rw [if_pos (by omega), rdT_nat, h _ (getD_mem z43 (by omega))]
    simp only [Option.bind_some]
    by_cases c : q (l.getD i z43) = true
    · rw [if_pos c, if_pos c]; rfl
    · rw [if_neg c, if_neg c]
      exact idxF_law p q l h d (i + 1) (by omega)
def isZ (x : Int × Int × Int × Int × Int × Int) : Bool := x.1 == 17 && (x.2.1 == 0 && (x.2.2.1 == 0 && (x.2.2.2.1 == 0 && x.2.2.2.2.1 == 0)))
def fits (l3 l4 : List Int) (r : S43) : Bool :=
  if isCode r.f0 = true then (if r.f0 = 0 ∨ r.f0 = 7 then isZ (dec (rd l3 r.f1)) else decide ((dec (rd l3 r.f1)).1 = 2) && ((dec (rd l3 r.f1)).2.2.2.2.1 == 0)) else rd l4 r.f1 == 0
theorem fits_law (k : Nat) (hk : 3 ≤ k) (a0 : ByteArray) (l1 l2 : List ByteArray) (l3 l4 : List Int) (l5 : List S43) (r : S43) (h0 : 0 ≤ r.f1) (h1 : r.f1 < (if isCode r.f0 = true then (l3.length : Int) else (l4.length : Int))) :
    valid_fits.f k a0 l1 l2 l3 l4 l5 r.f0 r.f1 r.f2 = some (fits l3 l4 r) := by
  unfold valid_fits.f fits
  rw [of_law]
  simp only [Option.bind_some]
  by_cases c : isCode r.f0 = true
  · rw [if_pos c, if_pos h0, if_pos (by rw [if_pos c] at h1; exact h1), if_pos c, dec_at hk]
    simp only [Option.bind_some]
    by_cases e0 : r.f0 = 0
    · rw [if_pos e0, if_pos (.inl e0)]; rfl
    · rw [if_neg e0]
      by_cases e7 : r.f0 = 7
      · rw [if_pos e7, if_pos (.inr e7)]; rfl
      · rw [if_neg e7, if_neg (show ¬ (r.f0 = 0 ∨ r.f0 = 7) by omega)]
        by_cases e2 : (dec (rd l3 r.f1)).1 = 2
        · rw [if_pos e2]; simp [e2]
        · rw [if_neg e2]; simp [e2]
  · rw [if_neg c, if_pos h0, if_pos (by rw [if_neg c] at h1; exact h1), if_neg c]
def there (l2 : List ByteArray) (l3 l4 : List Int) (r : S43) : Bool :=
  decide (r.f2 < (if r.f0 = 0 ∨ r.f0 = 1 ∨ r.f0 = 4 then (l2.length : Int) else if r.f0 = 2 ∨ r.f0 = 5 then (l4.length : Int) else (l3.length : Int)))
theorem there_law (k : Nat) (hk : 1 ≤ k) (a0 : ByteArray) (l1 l2 : List ByteArray) (l3 l4 : List Int) (l5 : List S43) (r : S43) (h0 : 0 ≤ r.f2 ∧ r.f2 ≤ 65535) :
    valid_there.f k a0 l1 l2 l3 l4 l5 r.f0 r.f1 r.f2 = some (there l2 l3 l4 r) := by
  obtain ⟨k, rfl⟩ : ∃ k', k = k' + 1 := ⟨k - 1, by omega⟩
  unfold valid_there.f there
  simp only [valid_there.j0, w64 r.f2 (by omega)]
  by_cases e0 : r.f0 = 0
  · simp [e0]
  by_cases e1 : r.f0 = 1
  · simp [e1]
  by_cases e4 : r.f0 = 4
  · simp [e4]
  by_cases e2 : r.f0 = 2
  · simp [e2]
  by_cases e5 : r.f0 = 5
  · simp [e5]
  simp [e0, e1, e4, e2, e5]
noncomputable def loose (l3 : List Int) (l5 : List S43) (i : Nat) : Bool := decide ((dec (l3.getD i 0)).1 = 17 ∧ ¬ ∃ j, j < l5.length ∧ spot (l5.getD j z43) = (true, (i : Int) % 65536))
theorem relD_law (k : Nat) (hk : 3 ≤ k) (l3 : List Int) (l5 : List S43) (s : List (Bool × Int)) (hs : ∀ x, x ∈ s ↔ ∃ j, j < l5.length ∧ spot (l5.getD j z43) = x) : ∀ (d i : Nat), i + d = l3.length → relD k l3 s d i = some (match first (loose l3 l5) d i with | some j => (9, (j : Int)) | none => (0, 0))
  | 0, i, _ => rfl
  | d + 1, i, hd => by
    simp only [relD, first]
    rw [if_pos (by omega), rd_nat, dec_at hk]
    simp only [Option.bind_some]
    by_cases c : (dec (l3.getD i 0)).1 = 17 ∧ ¬ (true, (i : Int) % 65536) ∈ s
    · have eb : loose l3 l5 i = true := decide_eq_true ⟨c.1, fun h => c.2 ((hs _).2 h)⟩
      rw [if_pos c, if_pos eb]
    · have eb : ¬ loose l3 l5 i = true := fun h => c ⟨(of_decide_eq_true h).1, fun hm => (of_decide_eq_true h).2 ((hs _).1 hm)⟩
      rw [if_neg c, if_neg eb]
      exact relD_law k hk l3 l5 s hs d (i + 1) (by omega)
noncomputable def vRelocs (l2 : List ByteArray) (l3 l4 : List Int) (l5 : List S43) : Int × Int :=
  match first (badPlace l3 l4 l5) l5.length 0 with
  | some i => (6, (i : Int))
  | none => match first (fun i => !fits l3 l4 (l5.getD i z43)) l5.length 0 with
    | some i => (7, (i : Int))
    | none => match first (fun i => !there l2 l3 l4 (l5.getD i z43)) l5.length 0 with
      | some i => (8, (i : Int))
      | none => match first (loose l3 l5) l3.length 0 with
        | some i => (9, (i : Int))
        | none => (0, 0)
end Go.Proofs.YtiphindialkmnaaDoor.X
end
section
namespace Go.Proofs.YtiphindialkmnaaDoor.X
open Go.RowKit Go.Proofs.YtiphindialkmnaaDoorW.PrintWords Go.Proofs.YtiphindialkmnaaDoorW.PrintLast Go.Proofs.YtiphindialkmnaaDoorW.PrintMore
set_option linter.unusedSimpArgs false
set_option linter.unusedVariables false
def wfR (x : S43) : Prop := 0 ≤ x.f0 ∧ x.f0 ≤ 255 ∧ 0 ≤ x.f1 ∧ x.f1 ≤ 65535 ∧ 0 ≤ x.f2 ∧ x.f2 ≤ 65535
theorem place_lt {l3 l4 : List Int} {l5 : List S43} (h : first (badPlace l3 l4 l5) l5.length 0 = none) {r : S43} (hr : r ∈ l5) : r.f1 < (if isCode r.f0 = true then (l3.length : Int) else (l4.length : Int)) := by
  obtain ⟨j, hj, e⟩ := List.getElem_of_mem hr
  have h1 := first_none.1 h j (Nat.zero_le _) (by omega)
  have e2 : l5.getD j z43 = r := by rw [List.getD_eq_getElem?_getD, List.getElem?_eq_getElem hj, e]; rfl
  unfold badPlace at h1
  rw [Bool.or_eq_false_iff, decide_eq_false_iff_not, decide_eq_false_iff_not, e2] at h1
  have := h1.2
  omega
theorem relocs_law (k : Nat) (hk : 3 ≤ k) (a0 : ByteArray) (l1 l2 : List ByteArray) (l3 l4 : List Int) (l5 : List S43) (hw : ∀ x ∈ l5, wfR x) : valid_relocs.f k a0 l1 l2 l3 l4 l5 = some (vRelocs l2 l3 l4 l5) := by
  unfold valid_relocs.f vRelocs
  obtain ⟨s', h1, h2⟩ := relA_law l3 l4 l5 (fun x hx => ⟨(hw x hx).2.2.1, (hw x hx).2.2.2.1⟩) l5.length 0 [] (by omega) (by intro x; simp)
  rw [h1]
  simp only [Option.bind_some]
  cases hp : first (badPlace l3 l4 l5) l5.length 0 with
  | some i => rfl
  | none =>
    simp only
    rw [idxF_law _ (fun r => !fits l3 l4 r) l5 (fun x hx => by
      rw [fits_law k hk a0 l1 l2 l3 l4 l5 x (hw x hx).2.2.1 (place_lt hp hx)]; rfl) l5.length 0 (by omega)]
    rw [idxF_law _ (fun r => !there l2 l3 l4 r) l5 (fun x hx => by
      rw [there_law k (by omega) a0 l1 l2 l3 l4 l5 x (hw x hx).2.2.2.2]; rfl) l5.length 0 (by omega)]
    simp only [Option.bind_some]
    cases hf : first (fun i => !fits l3 l4 (l5.getD i z43)) l5.length 0 with
    | some i =>
      simp only
      rw [if_pos (show optI (some i) ≥ 0 from Int.natCast_nonneg i)]
      rfl
    | none =>
      simp only
      rw [if_neg (show ¬ optI none ≥ 0 by decide)]
      cases ht : first (fun i => !there l2 l3 l4 (l5.getD i z43)) l5.length 0 with
      | some i =>
        simp only
        rw [if_pos (show optI (some i) ≥ 0 from Int.natCast_nonneg i)]
        rfl
      | none =>
        simp only
        rw [if_neg (show ¬ optI none ≥ 0 by decide)]
        exact relD_law k hk l3 l5 s' h2 l3.length 0 (by omega)
noncomputable def vModule (a0 : ByteArray) (l1 l2 : List ByteArray) (l3 l4 : List Int) (l5 : List S43) : Int × Int :=
  if objOk a0 l1 l2 l3 l4 l5 then
    (if (vTexts a0 l1 l2).1 = 0 then (if (vWords l1 l3).1 = 0 then vRelocs l2 l3 l4 l5 else vWords l1 l3) else vTexts a0 l1 l2)
  else (1, 0)
/-- what a module that came in is known to be -/
structure ModWf (a0 : ByteArray) (l1 l2 : List ByteArray) (l3 l4 : List Int) (l5 : List S43) : Prop where
  n : a0.size ≤ 9223372036854775807
  e : ∀ s ∈ l1, s.size ≤ 9223372036854775807
  i : ∀ s ∈ l2, s.size ≤ 9223372036854775807
  r : ∀ x ∈ l5, wfR x
  s : l1.length ≤ 4000 ∧ l2.length ≤ 4000 ∧ l3.length ≤ 4000 ∧ l4.length ≤ 4000 ∧ l5.length ≤ 4000
theorem module_law (k : Nat) (hk : 4010 ≤ k) {a0 : ByteArray} {l1 l2 : List ByteArray} {l3 l4 : List Int} {l5 : List S43} (h : ModWf a0 l1 l2 l3 l4 l5) : valid_Module.f k a0 l1 l2 l3 l4 l5 = some (vModule a0 l1 l2 l3 l4 l5) := by
  unfold valid_Module.f vModule
  obtain ⟨e, he, hi⟩ := object_law k a0 l1 l2 l3 l4 l5 h.s.1 h.s.2.1 h.s.2.2.2.2 (by omega)
  rw [he]
  simp only [Option.bind_some]
  by_cases ho : objOk a0 l1 l2 l3 l4 l5
  · rw [if_pos (hi.2 ho), if_pos ho, texts_law k a0 l1 l2 l3 l4 l5 h.n h.e h.i (by have := ho.1; omega) (by have := ho.2.1; omega) (by omega)]
    simp only [Option.bind_some]
    by_cases ht : (vTexts a0 l1 l2).1 = 0
    · rw [if_pos ht, if_pos ht, words_law k a0 l1 l2 l3 l4 l5 h.s.2.2.1 (by have := h.s.2.2.1; omega)]
      simp only [Option.bind_some]
      by_cases hw : (vWords l1 l3).1 = 0
      · rw [if_pos hw, if_pos hw, relocs_law k (by omega) a0 l1 l2 l3 l4 l5 h.r]
        rfl
      · rw [if_neg hw, if_neg hw]
    · rw [if_neg ht, if_neg ht]
  · rw [if_neg (fun he => ho (hi.1 he)), if_neg ho]
theorem check_law (k : Nat) (hk : 4010 ≤ k) {a0 : ByteArray} {l1 l2 : List ByteArray} {l3 l4 : List Int} {l5 : List S43} (h : ModWf a0 l1 l2 l3 l4 l5) : valid_Check.f k a0 l1 l2 l3 l4 l5 = some (if (vModule a0 l1 l2 l3 l4 l5).1 = 0 then 0 else 20) := by
  unfold valid_Check.f
  rw [module_law k hk h]
  simp only [Option.bind_some]
  split <;> rfl
/-! when nothing is wrong -/
theorem texts_ok {a0 : ByteArray} {l1 l2 : List ByteArray} : (vTexts a0 l1 l2).1 = 0 ↔ first (badName (a0 :: l1)) (l1.length + 1) 0 = none ∧ first (badName l2) l2.length 0 = none ∧ first (dup l1) l1.length 0 = none ∧ first (dup l2) l2.length 0 = none := by
  unfold vTexts
  cases first (badName (a0 :: l1)) (l1.length + 1) 0 with
  | some i => simp
  | none =>
    cases first (badName l2) l2.length 0 with
    | some i => simp
    | none =>
      cases first (dup l1) l1.length 0 with
      | some i => simp
      | none =>
        cases first (dup l2) l2.length 0 with
        | some i => simp
        | none => simp
theorem words_ok {l1 : List ByteArray} {l3 : List Int} : (vWords l1 l3).1 = 0 ↔ l3.length ≠ 0 ∧ l1.length ≤ l3.length ∧ first (badWord l3) l3.length 0 = none := by
  unfold vWords
  by_cases c : l3.length = 0 ∨ l3.length < l1.length
  · rw [if_pos c]
    constructor
    · intro h; cases h
    · intro h; omega
  · rw [if_neg c]
    cases first (badWord l3) l3.length 0 with
    | some i => simp
    | none => exact ⟨fun _ => ⟨by omega, by omega, rfl⟩, fun _ => rfl⟩
theorem relocs_ok {l2 : List ByteArray} {l3 l4 : List Int} {l5 : List S43} : (vRelocs l2 l3 l4 l5).1 = 0 ↔ first (badPlace l3 l4 l5) l5.length 0 = none ∧ first (fun i => !fits l3 l4 (l5.getD i z43)) l5.length 0 = none ∧ first (fun i => !there l2 l3 l4 (l5.getD i z43)) l5.length 0 = none ∧ first (loose l3 l5) l3.length 0 = none := by
  unfold vRelocs
  cases first (badPlace l3 l4 l5) l5.length 0 with
  | some i => simp
  | none =>
    cases first (fun i => !fits l3 l4 (l5.getD i z43)) l5.length 0 with
    | some i => simp
    | none =>
      cases first (fun i => !there l2 l3 l4 (l5.getD i z43)) l5.length 0 with
      | some i => simp
      | none =>
        cases first (loose l3 l5) l3.length 0 with
        | some i => simp
        | none => simp
theorem relocs_zero {l2 : List ByteArray} {l3 l4 : List Int} {l5 : List S43} (h : (vRelocs l2 l3 l4 l5).1 = 0) : vRelocs l2 l3 l4 l5 = (0, 0) := by
  obtain ⟨h1, h2, h3, h4⟩ := relocs_ok.1 h
  unfold vRelocs
  rw [h1, h2, h3, h4]
theorem module_ok {a0 : ByteArray} {l1 l2 : List ByteArray} {l3 l4 : List Int} {l5 : List S43} : (vModule a0 l1 l2 l3 l4 l5).1 = 0 ↔ objOk a0 l1 l2 l3 l4 l5 ∧ (vTexts a0 l1 l2).1 = 0 ∧ (vWords l1 l3).1 = 0 ∧ (vRelocs l2 l3 l4 l5).1 = 0 := by
  unfold vModule
  by_cases ho : objOk a0 l1 l2 l3 l4 l5
  · rw [if_pos ho]
    by_cases ht : (vTexts a0 l1 l2).1 = 0
    · rw [if_pos ht]
      by_cases hw : (vWords l1 l3).1 = 0
      · rw [if_pos hw]; simp [ho, ht, hw]
      · rw [if_neg hw]; simp [hw]
    · rw [if_neg ht]; simp [ht]
  · rw [if_neg ho]; simp [ho]
end Go.Proofs.YtiphindialkmnaaDoor.X
end
section
namespace Go.Proofs.YtiphindialkmnaaDoor.X
open Go.RowKit Go.Proofs.YtiphindialkmnaaDoorW.PrintWords Go.Proofs.YtiphindialkmnaaDoorW.PrintLast Go.Proofs.YtiphindialkmnaaDoorW.PrintMore
set_option linter.unusedSimpArgs false
set_option linter.unusedVariables false
theorem all_getD {α : Type} (d : α) (l : List α) (p : α → Prop) : (∀ j, j < l.length → p (l.getD j d)) ↔ ∀ x ∈ l, p x := by
  constructor
  · intro h x hx
    obtain ⟨j, hj, e⟩ := List.getElem_of_mem hx
    have h1 := h j hj
    rw [List.getD_eq_getElem?_getD, List.getElem?_eq_getElem hj, e] at h1
    exact h1
  · exact fun h j hj => h _ (getD_mem d hj)
theorem names_all {l : List ByteArray} {n : Nat} (hn : n = l.length) : first (badName l) n 0 = none ↔ ∀ s ∈ l, nameE s = 0 := by
  rw [first_none, ← all_getD ByteArray.empty]
  constructor
  · intro h j hj
    have h1 := h j (Nat.zero_le _) (by omega)
    unfold badName at h1
    rw [decide_eq_false_iff_not, Decidable.not_not] at h1
    exact h1
  · intro h j _ hj
    unfold badName
    rw [decide_eq_false_iff_not, Decidable.not_not]
    exact h _ (by omega)
/-- no text twice -/
def once (l : List ByteArray) : Prop := ∀ i, i < l.length → l.getD i ByteArray.empty ∉ l.take i
theorem dup_once {l : List ByteArray} : first (dup l) l.length 0 = none ↔ once l := by
  rw [first_none]
  constructor
  · intro h i hi
    have := h i (Nat.zero_le _) (by omega)
    unfold dup at this
    exact decide_eq_false_iff_not.1 this
  · intro h j _ hj
    unfold dup
    exact decide_eq_false_iff_not.2 (h j (by omega))
def goodWord (x : Int) : Prop := (dec x).2.2.2.2.2 = 0 ∧ (dec x).1 ≠ 21
theorem words_all {l : List Int} : first (badWord l) l.length 0 = none ↔ ∀ x ∈ l, goodWord x := by
  rw [first_none, ← all_getD (0 : Int)]
  constructor
  · intro h j hj
    have h1 := h j (Nat.zero_le _) (by omega)
    unfold badWord at h1
    rw [decide_eq_false_iff_not, not_or, Decidable.not_not] at h1
    exact h1
  · intro h j _ hj
    unfold badWord
    rw [decide_eq_false_iff_not, not_or, Decidable.not_not]
    exact h _ (by omega)
def room (l3 l4 : List Int) (r : S43) : Int := if isCode r.f0 = true then (l3.length : Int) else (l4.length : Int)
def apart5 (l5 : List S43) : Prop := ∀ i j, j < i → i < l5.length → spot (l5.getD j z43) ≠ spot (l5.getD i z43)
theorem places_all {l3 l4 : List Int} {l5 : List S43} : first (badPlace l3 l4 l5) l5.length 0 = none ↔ apart5 l5 ∧ ∀ r ∈ l5, r.f1 < room l3 l4 r := by
  rw [first_none, ← all_getD z43]
  constructor
  · intro h
    constructor
    · intro i j hj hi he
      have h1 := h i (Nat.zero_le _) (by omega)
      unfold badPlace at h1
      rw [Bool.or_eq_false_iff, decide_eq_false_iff_not] at h1
      exact h1.1 ⟨j, hj, he⟩
    · intro j hj
      have h1 := h j (Nat.zero_le _) (by omega)
      unfold badPlace at h1
      rw [Bool.or_eq_false_iff, decide_eq_false_iff_not, decide_eq_false_iff_not] at h1
      have := h1.2
      unfold room
      omega
  · rintro ⟨h1, h2⟩ j _ hj
    unfold badPlace
    rw [Bool.or_eq_false_iff, decide_eq_false_iff_not, decide_eq_false_iff_not]
    refine ⟨?_, ?_⟩
    · rintro ⟨i, hi, he⟩; exact h1 j i hi (by omega) he
    · have := h2 j (by omega)
      unfold room at this
      omega
theorem not_all {l5 : List S43} (p : S43 → Bool) : first (fun i => !p (l5.getD i z43)) l5.length 0 = none ↔ ∀ r ∈ l5, p r = true := by
  rw [first_none, ← all_getD z43]
  constructor
  · intro h j hj
    have := h j (Nat.zero_le _) (by omega)
    simpa using this
  · intro h j _ hj
    have := h j (by omega)
    simpa using this
def tied (l3 : List Int) (l5 : List S43) : Prop := ∀ i, i < l3.length → (dec (l3.getD i 0)).1 = 17 → ∃ r ∈ l5, spot r = (true, (i : Int) % 65536)
theorem loose_all {l3 : List Int} {l5 : List S43} : first (loose l3 l5) l3.length 0 = none ↔ tied l3 l5 := by
  rw [first_none]
  constructor
  · intro h i hi h17
    have h1 := h i (Nat.zero_le _) (by omega)
    unfold loose at h1
    rw [decide_eq_false_iff_not] at h1
    by_cases hc : ∃ j, j < l5.length ∧ spot (l5.getD j z43) = (true, (i : Int) % 65536)
    · obtain ⟨j, hj, he⟩ := hc
      exact ⟨_, getD_mem z43 hj, he⟩
    · exact absurd ⟨h17, hc⟩ h1
  · intro h i _ hi
    unfold loose
    rw [decide_eq_false_iff_not]
    rintro ⟨h17, hc⟩
    obtain ⟨r, hr, he⟩ := h i (by omega) h17
    obtain ⟨j, hj, e⟩ := List.getElem_of_mem hr
    exact hc ⟨j, hj, by rw [List.getD_eq_getElem?_getD, List.getElem?_eq_getElem hj, e]; exact he⟩
structure ModOk (a0 : ByteArray) (l1 l2 : List ByteArray) (l3 l4 : List Int) (l5 : List S43) : Prop where
  obj : objOk a0 l1 l2 l3 l4 l5
  n : nameE a0 = 0
  e : ∀ s ∈ l1, nameE s = 0
  i : ∀ s ∈ l2, nameE s = 0
  d1 : once l1
  d2 : once l2
  w0 : l3.length ≠ 0 ∧ l1.length ≤ l3.length
  w : ∀ x ∈ l3, goodWord x
  p : apart5 l5
  q : ∀ r ∈ l5, r.f1 < room l3 l4 r
  f : ∀ r ∈ l5, fits l3 l4 r = true
  t : ∀ r ∈ l5, there l2 l3 l4 r = true
  l : tied l3 l5
theorem ok_iff {a0 : ByteArray} {l1 l2 : List ByteArray} {l3 l4 : List Int} {l5 : List S43} : (vModule a0 l1 l2 l3 l4 l5).1 = 0 ↔ ModOk a0 l1 l2 l3 l4 l5 := by
  rw [module_ok, texts_ok, words_ok, relocs_ok, names_all (l := a0 :: l1) (n := l1.length + 1) rfl, names_all (l := l2) rfl, dup_once, dup_once, words_all, places_all, not_all (fits l3 l4), not_all (there l2 l3 l4), loose_all]
  constructor
  · rintro ⟨h1, ⟨h2, h3, h4, h5⟩, ⟨h6, h7, h8⟩, ⟨h9, h10⟩, h11, h12, h13⟩
    exact ⟨h1, h2 _ (List.mem_cons_self ..), fun s hs => h2 s (List.mem_cons_of_mem _ hs), h3, h4, h5, ⟨h6, h7⟩, h8, h9, h10, h11, h12, h13⟩
  · intro h
    refine ⟨h.obj, ⟨fun s hs => ?_, h.i, h.d1, h.d2⟩, ⟨h.w0.1, h.w0.2, h.w⟩, ⟨h.p, h.q⟩, h.f, h.t, h.l⟩
    rcases List.mem_cons.1 hs with rfl | hs
    · exact h.n
    · exact h.e s hs
theorem rd_append {l m : List Int} {x : Int} (h0 : 0 ≤ x) (h : x < l.length) : rd (l ++ m) x = rd l x := by
  unfold rd
  rw [List.getD_eq_getElem?_getD, List.getD_eq_getElem?_getD, List.getElem?_append_left (by omega)]
/-- more words of code or data leave what a relocation's word is -/
theorem fits_more {l3 l4 m3 m4 : List Int} {r : S43} (h0 : 0 ≤ r.f1) (hq : r.f1 < room l3 l4 r) : fits (l3 ++ m3) (l4 ++ m4) r = fits l3 l4 r := by
  unfold room at hq
  unfold fits
  by_cases c : isCode r.f0 = true
  · rw [if_pos c] at hq
    rw [if_pos c, if_pos c, rd_append h0 hq]
  · rw [if_neg c] at hq
    rw [if_neg c, if_neg c, rd_append h0 hq]
theorem room_more {l3 l4 m3 m4 : List Int} {r : S43} (hq : r.f1 < room l3 l4 r) : r.f1 < room (l3 ++ m3) (l4 ++ m4) r := by
  unfold room at hq ⊢
  simp only [List.length_append]
  by_cases c : isCode r.f0 = true
  · rw [if_pos c] at hq ⊢; omega
  · rw [if_neg c] at hq ⊢; omega
theorem there_more {l2 m2 : List ByteArray} {l3 l4 m3 m4 : List Int} {r : S43} (h : there l2 l3 l4 r = true) : there (l2 ++ m2) (l3 ++ m3) (l4 ++ m4) r = true := by
  unfold there at h ⊢
  have := of_decide_eq_true h
  refine decide_eq_true ?_
  simp only [List.length_append]
  split
  · rename_i c; rw [if_pos c] at this; omega
  · rename_i c
    rw [if_neg c] at this
    split
    · rename_i c2; rw [if_pos c2] at this; omega
    · rename_i c2; rw [if_neg c2] at this; omega
theorem dec0 : dec 0 = (0, 0, 0, 0, 0, 0) := by kernel_rfl
theorem getD_app {α : Type} (d : α) {l m : List α} {i : Nat} (h : i < l.length) : (l ++ m).getD i d = l.getD i d := by
  rw [List.getD_eq_getElem?_getD, List.getD_eq_getElem?_getD, List.getElem?_append_left h]
theorem getD_end {α : Type} (d : α) (l : List α) (x : α) : (l ++ [x]).getD l.length d = x := by
  rw [List.getD_eq_getElem?_getD, List.getElem?_append_right (Nat.le_refl _)]
  simp
/-- a halt more -/
theorem ok_halt {a0 : ByteArray} {l1 l2 : List ByteArray} {l3 l4 : List Int} {l5 : List S43} (hw : ∀ r ∈ l5, wfR r) (h : ModOk a0 l1 l2 l3 l4 l5) (hl : l3.length < 512) : ModOk a0 l1 l2 (l3 ++ [0]) l4 l5 := by
  obtain ⟨o1, o2, o3, o4, o5, o6, o7, o8, o9⟩ := h.obj
  have e4 : l4 ++ [] = l4 := List.append_nil _
  have e2 : l2 ++ [] = l2 := List.append_nil _
  refine ⟨⟨o1, o2, o3, by simp; omega, o5, o6, o7, o8, o9⟩, h.n, h.e, h.i, h.d1, h.d2, ⟨by simp, by have := h.w0.2; simp; omega⟩, fun x hx => ?_, h.p, fun r hr => ?_, fun r hr => ?_, fun r hr => ?_, fun i hi h17 => ?_⟩
  · rcases List.mem_append.1 hx with hx | hx
    · exact h.w x hx
    · obtain rfl := List.mem_singleton.1 hx
      unfold goodWord
      rw [dec0]
      exact ⟨rfl, by decide⟩
  · have := room_more (m3 := [0]) (m4 := []) (h.q r hr)
    rwa [e4] at this
  · have := fits_more (m3 := [0]) (m4 := []) (hw r hr).2.2.1 (h.q r hr)
    rw [e4] at this
    rw [this]
    exact h.f r hr
  · have := there_more (m2 := []) (m3 := [0]) (m4 := []) (h.t r hr)
    rwa [e4, e2] at this
  · by_cases hc : i < l3.length
    · rw [getD_app 0 hc] at h17
      exact h.l i hc h17
    · have : i = l3.length := by simp at hi; omega
      subst this
      rw [getD_end, dec0] at h17
      cases h17
theorem once_take {l : List ByteArray} (h : once l) (n : Nat) : once (l.take n) := by
  intro i hi hm
  have hi2 : i < l.length ∧ i < n := by rw [List.length_take] at hi; omega
  rw [List.take_take] at hm
  have e1 : (l.take n).getD i ByteArray.empty = l.getD i ByteArray.empty := by
    rw [List.getD_eq_getElem?_getD, List.getD_eq_getElem?_getD, List.getElem?_take]
    simp [hi2.2]
  have e2 : min i n = i := by omega
  rw [e1, e2] at hm
  exact h i hi2.1 hm
/-- the last import less -/
theorem ok_less {a0 : ByteArray} {l1 l2 : List ByteArray} {l3 l4 : List Int} {l5 : List S43} (h : ModOk a0 l1 l2 l3 l4 l5) (hn : 0 < l2.length) (hno : ∀ r ∈ l5, (r.f0 = 0 ∨ r.f0 = 1 ∨ r.f0 = 4) → r.f2 ≠ (l2.length : Int) - 1) : ModOk a0 l1 (l2.take (l2.length - 1)) l3 l4 l5 := by
  obtain ⟨o1, o2, o3, o4, o5, o6, o7, o8, o9⟩ := h.obj
  have hlen : (l2.take (l2.length - 1)).length = l2.length - 1 := by rw [List.length_take]; omega
  refine ⟨⟨o1, by omega, o3, o4, o5, o6, o7, fun s hs => o8 s (List.mem_of_mem_take hs), o9⟩, h.n, h.e, fun s hs => h.i s (List.mem_of_mem_take hs), h.d1, once_take h.d2 _, h.w0, h.w, h.p, h.q, h.f, fun r hr => ?_, h.l⟩
  have := h.t r hr
  unfold there at this ⊢
  have := of_decide_eq_true this
  refine decide_eq_true ?_
  by_cases c : r.f0 = 0 ∨ r.f0 = 1 ∨ r.f0 = 4
  · rw [if_pos c] at this ⊢
    have := hno r hr c
    omega
  · rw [if_neg c] at this ⊢
    exact this
/-- a word of data more -/
theorem ok_data {a0 : ByteArray} {l1 l2 : List ByteArray} {l3 l4 : List Int} {l5 : List S43} (hw : ∀ r ∈ l5, wfR r) (h : ModOk a0 l1 l2 l3 l4 l5) (hl : l4.length < 128) (x : Int) : ModOk a0 l1 l2 l3 (l4 ++ [x]) l5 := by
  obtain ⟨o1, o2, o3, o4, o5, o6, o7, o8, o9⟩ := h.obj
  have e3 : l3 ++ [] = l3 := List.append_nil _
  have e2 : l2 ++ [] = l2 := List.append_nil _
  refine ⟨⟨o1, o2, o3, o4, by simp; omega, o6, o7, o8, o9⟩, h.n, h.e, h.i, h.d1, h.d2, h.w0, h.w, h.p, fun r hr => ?_, fun r hr => ?_, fun r hr => ?_, h.l⟩
  · have := room_more (m3 := []) (m4 := [x]) (h.q r hr)
    rwa [e3] at this
  · have := fits_more (m3 := []) (m4 := [x]) (hw r hr).2.2.1 (h.q r hr)
    rw [e3] at this
    rw [this]
    exact h.f r hr
  · have := there_more (m2 := []) (m3 := []) (m4 := [x]) (h.t r hr)
    rwa [e3, e2] at this
end Go.Proofs.YtiphindialkmnaaDoor.X
end
section
namespace Go.Proofs.YtiphindialkmnaaDoor.X
open Go.RowKit Go.Lib Go.Maps Go.Joins Go.Proofs.YtiphindialkmnaaDoorW.PrintWords Go.Proofs.YtiphindialkmnaaDoorW.PrintLast Go.Proofs.YtiphindialkmnaaDoorW.PrintMore
set_option linter.unusedVariables false
set_option linter.unusedSimpArgs false
set_option maxRecDepth 100000
def dataK (a : Int) : Bool := a == 4 || (a == 5 || a == 6)
theorem data_at (a : Int) : link_data.f a = some (dataK a) := by
  unfold link_data.f dataK
  by_cases h4 : a = 4
  · simp [h4]
  · by_cases h5 : a = 5
    · simp [h5]
    · have e4 : (a == 4) = false := beq_eq_false_iff_ne.2 h4
      have e5 : (a == 5) = false := beq_eq_false_iff_ne.2 h5
      rw [if_neg h4, if_neg h5, e4, e5]
      rfl
/-- is a relocation the one of a word? -/
def wordIs (at_ : Int) (code : Bool) (r : S43) : Bool := decide (wrap64 r.f1 = at_) && (!(dataK r.f0 == code) && decide (r.f0 ≤ 7))
set_option maxRecDepth 100000 in
theorem word99.calls (at_ : Int) (code : Bool) (f0 f1 f2 : Int) (gA gB : Nat) (r : Bool) (w : World) (hA : w.heap[gA]? = some (.cells #[.int .i64 at_] 3 (0, 0))) (hB : w.heap[gB]? = some (.cells #[.bool code] 4 (0, 0))) (h : wordIs at_ code ⟨f0, f1, f2⟩ = r) :
    Calls Tryd.prog 99 #[.agg #[.int .u8 f0, .int .u16 f1, .int .u16 f2], .pointer (some ⟨gA, 0, none⟩), .pointer (some ⟨gB, 0, none⟩)] w fun e w' => e = .returned (.bool r) ∧ Below w.heap.size w w' := by
  have hzA := cz hA 0 (.int .i64 at_)
  have hzB := cz hB 0 (.bool code)
  have hlA : gA < w.heap.size := blk_lt hA
  have hlB : gB < w.heap.size := blk_lt hB
  have HB := Aside0.mk (below_alloc (Below.refl w.heap.size w) (.cells #[.int .u8 f0, .int .u16 f1, .int .u16 f2] 43))
  have HD := Aside0.mk (data_at f0)
  clear hA hB
  unfold wordIs at h
  simp only at h
  by_cases c1 : wrap64 f1 = at_
  case neg =>
    have c1' : (wrap64 f1 == at_) = false := beq_eq_false_iff_ne.2 c1
    rw [decide_eq_false c1, Bool.false_and] at h
    subst h
    clear c1
    go_enter Tryd.func99, Tryd.ntmps99
    go_wp2
    repeat (go_quiet (fail); try go_wp2)
    go_ret
    exact ⟨by first | rfl | (simp; done) | (simp [*]; done), by repeat (first | exact HB.out | apply pw_below_drewN)⟩
  have c1' : (wrap64 f1 == at_) = true := beq_iff_eq.2 c1
  have c1'' : (IntKind.i64.wrap f1 == at_) = true := by simp only [i64_w]; exact c1'
  rw [decide_eq_true c1, Bool.true_and] at h
  clear c1
  cases c2 : dataK f0 == code with
  | true =>
    rw [c2, Bool.not_true, Bool.false_and] at h
    subst h
    go_enter Tryd.func99, Tryd.ntmps99
    go_wp2
    repeat (go_quiet (first | (go_at_call 100; (with_reducible refine (link_data.calls f0 _ _ HD.out).mono ?_); rintro e w' ⟨rfl, ⟨nd, rfl⟩⟩; (try first | exact ⟨rfl, _, World.drewN_drewN _ _ _⟩ | exact ⟨rfl, _, Eq.trans (World.drewN_drewN _ _ _) (congrArg (World.drewN _) (Nat.add_assoc _ _ _))⟩))); try go_wp2)
    go_ret
    exact ⟨by first | rfl | (simp; done) | (simp [*]; done), by repeat (first | exact HB.out | apply pw_below_drewN)⟩
  | false =>
    rw [c2, Bool.not_false, Bool.true_and] at h
    subst h
    go_enter Tryd.func99, Tryd.ntmps99
    go_wp2
    repeat (go_quiet (first | (go_at_call 100; (with_reducible refine (link_data.calls f0 _ _ HD.out).mono ?_); rintro e w' ⟨rfl, ⟨nd, rfl⟩⟩; (try first | exact ⟨rfl, _, World.drewN_drewN _ _ _⟩ | exact ⟨rfl, _, Eq.trans (World.drewN_drewN _ _ _) (congrArg (World.drewN _) (Nat.add_assoc _ _ _))⟩))); try go_wp2)
    go_ret
    exact ⟨by first | rfl | (simp; done) | (simp [*]; done), by repeat (first | exact HB.out | apply pw_below_drewN)⟩
end Go.Proofs.YtiphindialkmnaaDoor.X
end
section
namespace Go.Proofs.YtiphindialkmnaaDoor.X
open Go.RowKit Go.Proofs.YtiphindialkmnaaDoorW.PrintWords Go.Proofs.YtiphindialkmnaaDoorW.PrintLast Go.Proofs.YtiphindialkmnaaDoorW.PrintMore
attribute [local go_sem] max2_int min2_int max_two min_two max_three min_three max_four min_four
set_option linter.unusedVariables false
set_option linter.unusedSimpArgs false
set_option maxRecDepth 100000 in
theorem IndexFunc99.calls (at_ : Int) (code : Bool) (A5 : Option Addr) (c5 : Nat) (l5 : List S43) (gA gB : Nat) (r : Int) (w : World)
    (hA : w.heap[gA]? = some (.cells #[.int .i64 at_] 3 (0, 0))) (hB : w.heap[gB]? = some (.cells #[.bool code] 4 (0, 0)))
    (hr5 : Kd.C k43 w A5 l5.length l5) (hc5 : l5.length ≤ c5)
    (h : idxF (fun r => some (wordIs at_ code r)) l5 l5.length 0 = some r) :
    Calls Tryd.prog 78 #[.slice A5 l5.length c5, .func (.func 99) #[] #[.pointer (some ⟨gA, 0, none⟩), .pointer (some ⟨gB, 0, none⟩)]] w fun e w' => e = .returned (.int .i64 r) ∧ Below w.heap.size w w' := by
  have H := Aside0.mk h
  have HA := Aside0.mk hA
  have HK := Aside0.mk hB
  have HM := Aside0.mk (show l5.length ≤ 9223372036854775807 from hr5.2.1)
  clear h hA hB
  go_enter Tryd.func78, Tryd.ntmps78
  go_wp2
  go_loopw [8] (fun n wr => ∃ (i d : Nat), n = .int .i64 i ∧ i ≤ l5.length ∧ Aside0 (idxF (fun r => some (wordIs at_ code r)) l5 d i = some r) ∧ l5.length ≤ i + d ∧ Aside0 (Below w.heap.size w wr)) (fun n _ => l5.length - (RowKit.intOf n).toNat)
  case atStart => exact ⟨0, l5.length, rfl, Nat.zero_le _, H, by omega, ⟨Below.refl _ _⟩⟩
  case round =>
    obtain ⟨i, d, rfl, hi, hI, hd, HB⟩ := hrel
    have hlm := HM.out
    by_cases hlt : i < l5.length
    · have HC := Aside0.mk (Kd.C_below hr5 HB.out)
      obtain ⟨ad, e1, hx0, hx1, hx2⟩ := at_T43 HC.out (i : Int) (by omega) (by omega)
      simp only [Int.toNat_natCast] at hx0 hx1 hx2
      have hd1 : decide ((i : Int) < (l5.length : Int)) = true := decide_eq_true (by omega)
      cases d with
      | zero => omega
      | succ d =>
      have hI := hI.out
      simp only [idxF, if_pos hlt, Option.bind_some] at hI
      obtain ⟨b, hb0⟩ : ∃ b, wordIs at_ code (rd_T43 l5 (i : Int)) = b := ⟨_, rfl⟩
      rw [hb0] at hI
      have HF := Aside0.mk hb0
      have HI := Aside0.mk hI
      clear hI hb0
      cases e1
      go_wp2_with fail
      refine (word99.calls at_ code _ _ _ gA gB b _ (blk_below HA.out HB.out) (blk_below HK.out HB.out) HF.out).mono ?_
      rintro e w1 ⟨rfl, hb1⟩
      have HB1 := Aside0.mk (below_step HB.out hb1)
      clear hb1 hx0 hx1 hx2
      cases b with
      | true =>
        have HE := HI.out
        simp only [if_true] at HE
        obtain rfl := Option.some.inj HE
        clear HE HI
        go_wp2
        go_ret
        exact ⟨rfl, HB1.out⟩
      | false =>
        have HE := HI.out
        simp only [Bool.false_eq_true, if_false] at HE
        have HE := Aside0.mk HE
        clear HI
        go_wp2
        go_roundw
        case rel => exact ⟨i + 1, d, by go_num, by omega, HE, by omega, HB1⟩
        case measure => simp [RowKit.intOf]; omega
    · have hd1 : decide ((i : Int) < (l5.length : Int)) = false := decide_eq_false (by omega)
      have hI := hI.out
      have hE : some (-1) = some r := by
        rw [← hI]
        cases d with
        | zero => rfl
        | succ d => simp only [idxF, if_neg hlt]
      obtain rfl := Option.some.inj hE
      clear hE hI
      go_wp2
      go_ret
      exact ⟨rfl, HB.out⟩
/-! ### link_Word: function 71 -/
def link_Word.j0 : Nat → List Int → Int → Int → Bool → ByteArray → List ByteArray → List ByteArray → List Int → List Int → List (S43) → Int → Int → Option (Int × Int)
 | 0, _, _, _, _, _, _, _, _, _, _, _, _ => none
 | k + 1, x2, x10, x14, x36, x102000, x102001, x102002, x102003, x102004, x102005, x103000, x103001 => if x36 = true then (some (x10, 0)) else (if 0 ≤ x14 then (if x14 < (x102005.length : Int) then ((reloc_Value.f k ((rd_T43 x102005 x14).f0) ((rd_T43 x102005 x14).f1) ((rd_T43 x102005 x14).f2) x103000 x103001 x2).bind fun bt108 => (if bt108.2 = 0 then ((reloc_Apply.f k x10 ((rd_T43 x102005 x14).f0) bt108.1).bind fun bt111 => (some (bt111.1, bt111.2))) else (some (0, bt108.2)))) else (none)) else (none))
def link_Word.f (k : Nat) (a0_0 : ByteArray) (l0_1 : List ByteArray) (l0_2 : List ByteArray) (l0_3 : List Int) (l0_4 : List Int) (l0_5 : List (S43)) (a1_0 : Int) (a1_1 : Int) (l2 : List Int) (a3 : Int) : Option (Int × Int) := (layout_Raw.f a0_0 l0_1 l0_2 l0_3 l0_4 l0_5 a3).bind fun t103 => ((layout_Spot.f a0_0 l0_1 l0_2 l0_3 l0_4 l0_5 a3).bind fun bt104 => ((idxF (fun r => some (wordIs bt104.2.1 bt104.1 r)) l0_5 l0_5.length 0).bind fun nn => (if bt104.2.2 = true then (link_Word.j0 k l2 t103 nn (decide (nn < 0)) a0_0 l0_1 l0_2 l0_3 l0_4 l0_5 a1_0 a1_1) else (link_Word.j0 k l2 t103 nn true a0_0 l0_1 l0_2 l0_3 l0_4 l0_5 a1_0 a1_1))))
theorem link_Word.mono_l : ∀ k, (∀ y0 y1 y2 y3 y4 y5 y6 y7 y8 y9 y10 y11, LeO (link_Word.j0 k y0 y1 y2 y3 y4 y5 y6 y7 y8 y9 y10 y11) (link_Word.j0 (k + 1) y0 y1 y2 y3 y4 y5 y6 y7 y8 y9 y10 y11))
 | 0 => fun _ _ _ _ _ _ _ _ _ _ _ _ r h => by simp [link_Word.j0] at h
 | k + 1 => by
  have ih0 := link_Word.mono_l k
  ·intro y0 y1 y2 y3 y4 y5 y6 y7 y8 y9 y10 y11
   unfold link_Word.j0
   repeat' first
   | (with_reducible exact ih0 _ _ _ _ _ _ _ _ _ _ _ _)
   | (with_reducible exact reloc_Apply.mono _ _ _ _)
   | (with_reducible exact reloc_Value.mono _ _ _ _ _ _ _)
   | (with_reducible exact LeO.refl _)
   | (with_reducible exact LeO.none _)
   | (with_reducible refine LeO.ite ?_ ?_)
   | (with_reducible refine LeO.bind ?_ (fun _ => ?_))
   | exact ih0 _ _ _ _ _ _ _ _ _ _ _ _
   | exact reloc_Apply.mono _ _ _ _
   | exact reloc_Value.mono _ _ _ _ _ _ _
   | exact LeO.none _
   | refine LeO.ite ?_ ?_
   | refine LeO.bind ?_ (fun _ => ?_)
theorem link_Word.mono : ∀ a0 a1 a2 a3 a4 a5 a6 a7 a8 a9 k, LeO (link_Word.f k a0 a1 a2 a3 a4 a5 a6 a7 a8 a9) (link_Word.f (k + 1) a0 a1 a2 a3 a4 a5 a6 a7 a8 a9) := by
 intro a0 a1 a2 a3 a4 a5 a6 a7 a8 a9 k
 have ih0 := link_Word.mono_l k
 unfold link_Word.f
 repeat' first
   | (with_reducible exact ih0 _ _ _ _ _ _ _ _ _ _ _ _)
   | (with_reducible exact reloc_Apply.mono _ _ _ _)
   | (with_reducible exact reloc_Value.mono _ _ _ _ _ _ _)
   | (with_reducible exact LeO.refl _)
   | (with_reducible exact LeO.none _)
   | (with_reducible refine LeO.ite ?_ ?_)
   | (with_reducible refine LeO.bind ?_ (fun _ => ?_))
   | exact ih0 _ _ _ _ _ _ _ _ _ _ _ _
   | exact reloc_Apply.mono _ _ _ _
   | exact reloc_Value.mono _ _ _ _ _ _ _
   | exact LeO.none _
   | refine LeO.ite ?_ ?_
   | refine LeO.bind ?_ (fun _ => ?_)
def link_Word.T6 : Bool × List (List Nat × List Nat) := (true, [([], []), ([0], [0]), ([], []), ([1, 2], [1, 2]), ([3], [3]), ([], []), ([], []), ([4, 5, 6], [4, 5, 6]), ([7], [7]), ([8], [8]), ([8], [8]), ([9, 7, 0, 1, 2, 3, 4, 5, 6, 7, 8, 9], [9]), ([10, 11, 0, 1, 2, 3, 4, 5, 6, 7, 8, 9, 10, 11], [10])])
def link_Word.B6 : List Nat := [0, 1, 0, 7, 15, 0, 0, 127, 255, 511, 511, 1023, 4095]
theorem link_Word.tab6 : rtab .any (opsOf Tryd.f71 6) = link_Word.T6 := by kernel_rfl
theorem link_Word.bits6 : waitsOk link_Word.T6.2 link_Word.B6 = true := by kernel_rfl
set_option maxHeartbeats 8000000 in
set_option maxRecDepth 100000 in
theorem link_Word.calls (k : Nat) (a0_0 : ByteArray) (A0_1 : Option Addr) (c0_1 : Nat) (l0_1 : List ByteArray) (A0_2 : Option Addr) (c0_2 : Nat) (l0_2 : List ByteArray) (A0_3 : Option Addr) (c0_3 : Nat) (l0_3 : List Int) (A0_4 : Option Addr) (c0_4 : Nat) (l0_4 : List Int) (A0_5 : Option Addr) (c0_5 : Nat) (l0_5 : List (S43)) (a1_0 : Int) (a1_1 : Int) (A2 : Option Addr) (c2 : Nat) (l2 : List Int) (a3 : Int) (r1 : Int) (r2 : Int) (w : World) (hr0_1 : Kd.C Kd.string w A0_1 l0_1.length l0_1) (hc0_1 : l0_1.length ≤ c0_1) (hr0_2 : Kd.C Kd.string w A0_2 l0_2.length l0_2) (hc0_2 : l0_2.length ≤ c0_2) (hr0_3 : Kd.C (Kd.int .u32) w A0_3 l0_3.length l0_3) (hc0_3 : l0_3.length ≤ c0_3) (hr0_4 : Kd.C (Kd.int .u32) w A0_4 l0_4.length l0_4) (hc0_4 : l0_4.length ≤ c0_4) (hr0_5 : Kd.C k43 w A0_5 l0_5.length l0_5) (hc0_5 : l0_5.length ≤ c0_5) (hr2 : Kd.C (Kd.int .u32) w A2 l2.length l2) (hc2 : l2.length ≤ c2) (h : link_Word.f k a0_0 l0_1 l0_2 l0_3 l0_4 l0_5 a1_0 a1_1 l2 a3 = some (r1, r2)) :
  Calls Tryd.prog 71 #[.agg #[.string a0_0, .slice A0_1 l0_1.length c0_1, .slice A0_2 l0_2.length c0_2, .slice A0_3 l0_3.length c0_3, .slice A0_4 l0_4.length c0_4, .slice A0_5 l0_5.length c0_5], .agg #[.int .u32 a1_0, .int .u32 a1_1], .slice A2 l2.length c2, .int .i64 a3] w fun e w' => e = .returned (.tuple #[.int .u32 r1, .int .i64 r2]) ∧ Below w.heap.size w w' := by
 have hu26 := Tryd.underlying26
 have hu73 := Tryd.underlying73
 have hu43 := Tryd.underlying43
 have HR0_1 := Aside0.mk hr0_1
 have HC0_1 := Aside0.mk hc0_1
 clear hr0_1 hc0_1
 have HR0_2 := Aside0.mk hr0_2
 have HC0_2 := Aside0.mk hc0_2
 clear hr0_2 hc0_2
 have HR0_3 := Aside0.mk hr0_3
 have HC0_3 := Aside0.mk hc0_3
 clear hr0_3 hc0_3
 have HR0_4 := Aside0.mk hr0_4
 have HC0_4 := Aside0.mk hc0_4
 clear hr0_4 hc0_4
 have HR0_5 := Aside0.mk hr0_5
 have HC0_5 := Aside0.mk hc0_5
 clear hr0_5 hc0_5
 have HR2 := Aside0.mk hr2
 have HC2 := Aside0.mk hc2
 clear hr2 hc2
 have HB := Aside0.mk (Below.refl w.heap.size w)
 unfold link_Word.f at h
 obtain ⟨t103, A50, h⟩ := Option.bind_eq_some_iff.mp h
 obtain ⟨⟨t104, t105, t106⟩, A60, h⟩ := Option.bind_eq_some_iff.mp h
 obtain ⟨nn, A70, h⟩ := Option.bind_eq_some_iff.mp h
 have A5 := Aside0.mk A50
 have A6 := Aside0.mk A60
 have A7 := Aside0.mk A70
 replace h : (if t106 = true then (link_Word.j0 k l2 t103 nn (decide (nn < 0)) a0_0 l0_1 l0_2 l0_3 l0_4 l0_5 a1_0 a1_1) else (link_Word.j0 k l2 t103 nn true a0_0 l0_1 l0_2 l0_3 l0_4 l0_5 a1_0 a1_1)) = some (r1, r2) := h
 have HC7 := Aside0.mk h
 clear A50 A60 A70 h
 go_enter Tryd.func71, Tryd.ntmps71
 go_wp2_with (first | ((with_reducible refine gate_dst (N := 4) rfl ?_); refine box_event ?hg (N := 4) ?hd (cs := #[.string a0_0, .slice A0_1 l0_1.length c0_1, .slice A0_2 l0_2.length c0_2, .slice A0_3 l0_3.length c0_3, .slice A0_4 l0_4.length c0_4, .slice A0_5 l0_5.length c0_5]) (t := 26) ?hr ?_; (case hd => rfl); (case hg => rfl); (case hr => first | (go_simp; done) | (go_simp; rfl)); intro gb101 hg w8 hbox hb; have n0_ := Aside0.mk (below_step (tg HB.out) hb); have n1_ := Aside0.mk (hbox); have n2_ := Aside0.mk ((by rw [hg]; exact (below_size (tg HB.out)) : w.heap.size ≤ gb101)); have n3_ := Aside0.mk ((by rw [hg]; exact (below_size (tg HB.out)) : w.heap.size ≤ gb101)); clear HB; have HB := n0_; have BK101 := n1_; have GW101 := n2_; have GE101 := n3_; clear n0_ n1_ n2_ n3_; clear hb hbox hg) | ((with_reducible refine gate_dst (N := 5) rfl ?_); refine box_event ?hg (N := 5) ?hd (cs := #[.int .u32 a1_0, .int .u32 a1_1]) (t := 73) ?hr ?_; (case hd => rfl); (case hg => rfl); (case hr => first | (go_simp; done) | (go_simp; rfl)); intro gb102 hg w9 hbox hb; have n0_ := ba BK101.out hb; have n1_ := Aside0.mk (below_step (tg1 HB.out GE101.out) hb); have n2_ := Aside0.mk (hbox); have n3_ := Aside0.mk ((by rw [hg]; exact (below_size (tg1 HB.out GE101.out)) : w.heap.size ≤ gb102)); have n4_ := Aside0.mk ((by rw [hg]; exact (below_size (tg1 HB.out GE101.out)) : w.heap.size ≤ gb102)); have n5_ := Aside0.mk ((by rw [hg]; exact Nat.ne_of_lt (blk_lt (g := gb101) (o := .cells #[.string a0_0, .slice A0_1 l0_1.length c0_1, .slice A0_2 l0_2.length c0_2, .slice A0_3 l0_3.length c0_3, .slice A0_4 l0_4.length c0_4, .slice A0_5 l0_5.length c0_5] 26 (0, 0)) (tb BK101.out)) : gb101 ≠ gb102)); have n6_ := Aside0.mk ((by rw [hg]; exact Nat.ne_of_gt (blk_lt (g := gb101) (o := .cells #[.string a0_0, .slice A0_1 l0_1.length c0_1, .slice A0_2 l0_2.length c0_2, .slice A0_3 l0_3.length c0_3, .slice A0_4 l0_4.length c0_4, .slice A0_5 l0_5.length c0_5] 26 (0, 0)) (tb BK101.out)) : gb102 ≠ gb101)); clear BK101; clear HB; have BK101 := n0_; have HB := n1_; have BK102 := n2_; have GW102 := n3_; have GE102 := n4_; have NB101_102 := n5_; have NB102_101 := n6_; clear n0_ n1_ n2_ n3_ n4_ n5_ n6_; clear hb hbox hg; have hnb10 := NB101_102.out; have hnc10 := NB102_101.out; have hcz11_0 := cz BK101.out 0 (.string a0_0); have hcz11_1 := cz BK101.out 1 (.slice A0_1 l0_1.length c0_1); have hcz11_2 := cz BK101.out 2 (.slice A0_2 l0_2.length c0_2); have hcz11_3 := cz BK101.out 3 (.slice A0_3 l0_3.length c0_3); have hcz11_4 := cz BK101.out 4 (.slice A0_4 l0_4.length c0_4); have hcz11_5 := cz BK101.out 5 (.slice A0_5 l0_5.length c0_5); have hfz11_0 := blk_frozen BK101.out 0; have hfz11_1 := blk_frozen BK101.out 1; have hfz11_2 := blk_frozen BK101.out 2; have hfz11_3 := blk_frozen BK101.out 3; have hfz11_4 := blk_frozen BK101.out 4; have hfz11_5 := blk_frozen BK101.out 5) | ((with_reducible refine gate_callee (f := 36) rfl ?_); refine goesL_ (some 19) rfl rfl Tryd.func36 (by kernel_rfl) rfl #[.agg #[.string a0_0, .slice A0_1 l0_1.length c0_1, .slice A0_2 l0_2.length c0_2, .slice A0_3 l0_3.length c0_3, .slice A0_4 l0_4.length c0_4, .slice A0_5 l0_5.length c0_5], .int .i64 a3] rfl tm ?_; (with_reducible refine (layout_Raw.calls a0_0 _ _ l0_1 _ _ l0_2 _ _ l0_3 _ _ l0_4 _ _ l0_5 a3 t103 _ ?side1 ?side2 ?side3 ?side4 ?side5 ?side6 ?side7 ?side8 ?side9 ?side10 A5.out).mono ?_); (case side1 => exact tc (Kd.C_below HR0_1.out HB.out)); (case side2 => exact HC0_1.out); (case side3 => exact tc (Kd.C_below HR0_2.out HB.out)); (case side4 => exact HC0_2.out); (case side5 => exact tc (Kd.C_below HR0_3.out HB.out)); (case side6 => exact HC0_3.out); (case side7 => exact tc (Kd.C_below HR0_4.out HB.out)); (case side8 => exact HC0_4.out); (case side9 => exact tc (Kd.C_below HR0_5.out HB.out)); (case side10 => exact HC0_5.out); rintro e w12 ⟨rfl, hb⟩; refine ⟨_, rfl, ?_⟩; replace BK101 := ba BK101.out hb; replace BK102 := ba BK102.out hb; replace HB := Aside0.mk (below_step (tg2 HB.out GE101.out GE102.out) hb); (try clear hb); (try clear hb2); (try clear hk); (try clear hi); have hcz13_0 := cz BK101.out 0 (.string a0_0); have hcz13_1 := cz BK101.out 1 (.slice A0_1 l0_1.length c0_1); have hcz13_2 := cz BK101.out 2 (.slice A0_2 l0_2.length c0_2); have hcz13_3 := cz BK101.out 3 (.slice A0_3 l0_3.length c0_3); have hcz13_4 := cz BK101.out 4 (.slice A0_4 l0_4.length c0_4); have hcz13_5 := cz BK101.out 5 (.slice A0_5 l0_5.length c0_5); have hfz13_0 := blk_frozen BK101.out 0; have hfz13_1 := blk_frozen BK101.out 1; have hfz13_2 := blk_frozen BK101.out 2; have hfz13_3 := blk_frozen BK101.out 3; have hfz13_4 := blk_frozen BK101.out 4; have hfz13_5 := blk_frozen BK101.out 5) | ((with_reducible refine gate_callee (f := 35) rfl ?_); refine goesL_ (some 23) rfl rfl Tryd.func35 (by kernel_rfl) rfl #[.agg #[.string a0_0, .slice A0_1 l0_1.length c0_1, .slice A0_2 l0_2.length c0_2, .slice A0_3 l0_3.length c0_3, .slice A0_4 l0_4.length c0_4, .slice A0_5 l0_5.length c0_5], .int .i64 a3] rfl tm ?_; (with_reducible refine (layout_Spot.calls a0_0 _ _ l0_1 _ _ l0_2 _ _ l0_3 _ _ l0_4 _ _ l0_5 a3 t104 t105 t106 _ ?side1 ?side2 ?side3 ?side4 ?side5 ?side6 ?side7 ?side8 ?side9 ?side10 A6.out).mono ?_); (case side1 => exact tc (Kd.C_below HR0_1.out HB.out)); (case side2 => exact HC0_1.out); (case side3 => exact tc (Kd.C_below HR0_2.out HB.out)); (case side4 => exact HC0_2.out); (case side5 => exact tc (Kd.C_below HR0_3.out HB.out)); (case side6 => exact HC0_3.out); (case side7 => exact tc (Kd.C_below HR0_4.out HB.out)); (case side8 => exact HC0_4.out); (case side9 => exact tc (Kd.C_below HR0_5.out HB.out)); (case side10 => exact HC0_5.out); rintro e w14 ⟨rfl, hb⟩; refine ⟨_, rfl, ?_⟩; replace BK101 := ba BK101.out hb; replace BK102 := ba BK102.out hb; replace HB := Aside0.mk (below_step (tg2 HB.out GE101.out GE102.out) hb); (try clear hb); (try clear hb2); (try clear hk); (try clear hi); have hcz15_0 := cz BK101.out 0 (.string a0_0); have hcz15_1 := cz BK101.out 1 (.slice A0_1 l0_1.length c0_1); have hcz15_2 := cz BK101.out 2 (.slice A0_2 l0_2.length c0_2); have hcz15_3 := cz BK101.out 3 (.slice A0_3 l0_3.length c0_3); have hcz15_4 := cz BK101.out 4 (.slice A0_4 l0_4.length c0_4); have hcz15_5 := cz BK101.out 5 (.slice A0_5 l0_5.length c0_5); have hfz15_0 := blk_frozen BK101.out 0; have hfz15_1 := blk_frozen BK101.out 1; have hfz15_2 := blk_frozen BK101.out 2; have hfz15_3 := blk_frozen BK101.out 3; have hfz15_4 := blk_frozen BK101.out 4; have hfz15_5 := blk_frozen BK101.out 5; have hlt15 : gb101 < w14.heap.size := blk_lt BK101.out))
 have HBA := Aside0.mk (below_alloc (below_alloc HB.out (.cells #[.bool t104] 4)) (.cells #[.int .i64 t105] 3))
 refine (IndexFunc99.calls t105 t104 A0_5 c0_5 l0_5 (w14.heap.size + 1) w14.heap.size nn _ (by simpa using heap_alloc_new (w14.alloc (.cells #[.bool t104] 4)) (.cells #[.int .i64 t105] 3)) (blk_alloc (heap_alloc_new w14 (.cells #[.bool t104] 4)) _) (Kd.C_below HR0_5.out HBA.out) HC0_5.out A7.out).mono ?_
 rintro e w16 ⟨rfl, hb⟩
 replace BK101 := Aside0.mk (blk_below (blk_alloc (blk_alloc BK101.out _) _) hb)
 replace BK102 := Aside0.mk (blk_below (blk_alloc (blk_alloc BK102.out _) _) hb)
 replace HB := Aside0.mk (below_step HBA.out hb)
 clear hb HBA hlt15
 clear hcz15_0 hcz15_1 hcz15_2 hcz15_3 hcz15_4 hcz15_5 hfz15_0 hfz15_1 hfz15_2 hfz15_3 hfz15_4 hfz15_5
 go_upto_region 4 with (fail)
 (try simp only [Act.put, List.setIfInBounds_toArray, List.set_cons_zero, List.set_cons_succ])
 go_cut [36] (fun v36 wc => ∃ (kq : Nat) (x36_6 : Bool), v36 = .bool x36_6 ∧ Aside0 (link_Word.j0 kq l2 t103 nn x36_6 a0_0 l0_1 l0_2 l0_3 l0_4 l0_5 a1_0 a1_1 = some (r1, r2)) ∧ Aside0 (kq ≤ k) ∧ Aside0 (wc.heap[gb101]? = some (.cells #[.string a0_0, (.slice A0_1 l0_1.length c0_1), (.slice A0_2 l0_2.length c0_2), (.slice A0_3 l0_3.length c0_3), (.slice A0_4 l0_4.length c0_4), (.slice A0_5 l0_5.length c0_5)] 26 (0, 0))) ∧ Aside0 (wc.heap[gb102]? = some (.cells #[.int .u32 a1_0, .int .u32 a1_1] 73 (0, 0))) ∧ Aside0 (Below w.heap.size w wc))
 case first =>
  have H := HC7.out
  clear HC7
  by_cases c16 : t106 = true
  ·subst c16
   have H1 : (link_Word.j0 k l2 t103 nn (decide (nn < 0)) a0_0 l0_1 l0_2 l0_3 l0_4 l0_5 a1_0 a1_1) = some (r1, r2) := by rw [if_pos rfl] at H; exact H
   clear H
   have H := H1
   clear H1
   have H' := Aside0.mk H
   clear H
   go_wp2
   go_meet
   case rel => exact ⟨_, (decide (nn < 0)), (by first | rfl | (simp; done) | (simp [*]; done)), H', ⟨by first | omega | exact Nat.le_refl _⟩, ⟨by (with_reducible repeat (first | refine blk_drewN ?_ _ | refine blk_drew ?_ | refine blk_alloc ?_ _)); exact BK101.out⟩, ⟨by (with_reducible repeat (first | refine blk_drewN ?_ _ | refine blk_drew ?_ | refine blk_alloc ?_ _)); exact BK102.out⟩, ⟨tg2 HB.out GE101.out GE102.out⟩⟩
  ·replace c16 := Bool.eq_false_iff.mpr c16
   subst c16
   have H1 : (link_Word.j0 k l2 t103 nn true a0_0 l0_1 l0_2 l0_3 l0_4 l0_5 a1_0 a1_1) = some (r1, r2) := by rw [if_neg (show ¬ (false = true) by decide)] at H; exact H
   clear H
   have H := H1
   clear H1
   have H' := Aside0.mk H
   clear H
   go_wp2
   go_meet
   case rel => exact ⟨_, (true), (by first | rfl | (simp; done) | (simp [*]; done)), H', ⟨by first | omega | exact Nat.le_refl _⟩, ⟨by (with_reducible repeat (first | refine blk_drewN ?_ _ | refine blk_drew ?_ | refine blk_alloc ?_ _)); exact BK101.out⟩, ⟨by (with_reducible repeat (first | refine blk_drewN ?_ _ | refine blk_drew ?_ | refine blk_alloc ?_ _)); exact BK102.out⟩, ⟨tg2 HB.out GE101.out GE102.out⟩⟩
 case rest =>
  clear HC7
  try clear c1
  try clear c2
  try clear p2
  try clear c3
  try clear c7
  try clear c10
  try clear c16
  try clear hcz11_0
  try clear hcz11_1
  try clear hcz11_2
  try clear hcz11_3
  try clear hcz11_4
  try clear hcz11_5
  try clear hcz13_0
  try clear hcz13_1
  try clear hcz13_2
  try clear hcz13_3
  try clear hcz13_4
  try clear hcz13_5
  try clear hcz15_0
  try clear hcz15_1
  try clear hcz15_2
  try clear hcz15_3
  try clear hcz15_4
  try clear hcz15_5
  try clear hfz11_0
  try clear hfz11_1
  try clear hfz11_2
  try clear hfz11_3
  try clear hfz11_4
  try clear hfz11_5
  try clear hfz13_0
  try clear hfz13_1
  try clear hfz13_2
  try clear hfz13_3
  try clear hfz13_4
  try clear hfz13_5
  try clear hfz15_0
  try clear hfz15_1
  try clear hfz15_2
  try clear hfz15_3
  try clear hfz15_4
  try clear hfz15_5
  obtain ⟨kq, x36_6, rfl, HA, HJ6, BK101, BK102, HB⟩ := hcut
  cases kq with
  | zero => exact absurd HA.out (by simp [link_Word.j0])
  | succ kj6 =>
   have H := HA.out
   clear HA
   simp only [link_Word.j0] at H
   by_cases c17 : x36_6 = true
   ·subst c17
    have H1 : (some (t103, 0)) = some (r1, r2) := by rw [if_pos rfl] at H; exact H
    clear H
    have H := H1
    clear H1
    simp only [Option.some.injEq, Prod.mk.injEq] at H
    obtain ⟨rfl, rfl⟩ := H
    go_wp2
    go_ret2
    exact ⟨by first | rfl | (simp [errW_none, errW_some] <;> rfl) | (simp [*, errW_none, errW_some] <;> rfl), tg2 HB.out GE101.out GE102.out⟩
   ·replace c17 := Bool.eq_false_iff.mpr c17
    subst c17
    have H1 : (if 0 ≤ nn then (if nn < (l0_5.length : Int) then ((reloc_Value.f kj6 ((rd_T43 l0_5 nn).f0) ((rd_T43 l0_5 nn).f1) ((rd_T43 l0_5 nn).f2) a1_0 a1_1 l2).bind fun bt108 => (if bt108.2 = 0 then ((reloc_Apply.f kj6 t103 ((rd_T43 l0_5 nn).f0) bt108.1).bind fun bt111 => (some (bt111.1, bt111.2))) else (some (0, bt108.2)))) else (none)) else (none)) = some (r1, r2) := by rw [if_neg (show ¬ (false = true) by decide)] at H; exact H
    clear H
    have H := H1
    clear H1
    by_cases c18 : 0 ≤ nn
    ·rw [if_pos c18] at H
     have c18b0 : decide (0 ≤ nn) = true := decide_eq_true c18
     clear c18
     by_cases c19 : nn < (l0_5.length : Int)
     ·rw [if_pos c19] at H
      have c19b0 : decide (nn < (l0_5.length : Int)) = true := decide_eq_true c19
      clear c19
      replace H := Option.bind_eq_some_iff.mp H
      obtain ⟨⟨t108, t109⟩, A200, H⟩ := H
      replace H : (if t109 = 0 then ((reloc_Apply.f kj6 t103 ((rd_T43 l0_5 nn).f0) t108).bind fun bt111 => (some (bt111.1, bt111.2))) else (some (0, t109))) = some (r1, r2) := H
      have A20 := Aside0.mk A200
      clear A200
      by_cases c21 : t109 = 0
      ·rw [if_pos c21] at H
       have c21b0 : (t109 == 0) = true := beq_iff_eq.mpr c21
       have c21b1 : (t109 != 0) = false := bne_eq_false_iff_eq.mpr c21
       clear c21
       replace H := Option.bind_eq_some_iff.mp H
       obtain ⟨⟨t111, t112⟩, A220, H⟩ := H
       replace H : (some (t111, t112)) = some (r1, r2) := H
       have A22 := Aside0.mk A220
       clear A220
       simp only [Option.some.injEq, Prod.mk.injEq] at H
       obtain ⟨rfl, rfl⟩ := H
       try go_wp2
       replace BK101 := Aside0.mk (blk_drew BK101.out)
       replace BK102 := Aside0.mk (blk_drew BK102.out)
       replace HB := Aside0.mk (below_drew1 HB.out)
       have p107 : 0 ≤ (nn : Int) := of_decide_eq_true (by first | (with_reducible assumption) | assumption)
       have q107 : nn < (l0_5.length : Int) := of_decide_eq_true (by first | (with_reducible assumption) | assumption)
       obtain ⟨ad107, e107, hx107_0, hx107_1, hx107_2⟩ := at_T43 HR0_5.out nn p107 q107
       have hw107_2 := hx107_2
       have hw107_1 := hx107_1
       have hw107_0 := hx107_0
       cases e107
       replace hx107_0 := (HB.out.cell (World.block_lt_of_cell? w _ hx107_0)).trans hx107_0
       replace hx107_1 := (HB.out.cell (World.block_lt_of_cell? w _ hx107_1)).trans hx107_1
       replace hx107_2 := (HB.out.cell (World.block_lt_of_cell? w _ hx107_2)).trans hx107_2
       replace p107 := eq_true p107
       replace q107 := eq_true q107
       refine start_ (n := 13) (S := fun w' => w'.cell? ⟨gb101, 0, none⟩ = some (.string a0_0) ∧ w'.cell? ⟨gb101, 1, none⟩ = some (.slice A0_1 l0_1.length c0_1) ∧ w'.cell? ⟨gb101, 2, none⟩ = some (.slice A0_2 l0_2.length c0_2) ∧ w'.cell? ⟨gb101, 3, none⟩ = some (.slice A0_3 l0_3.length c0_3) ∧ w'.cell? ⟨gb101, 4, none⟩ = some (.slice A0_4 l0_4.length c0_4) ∧ w'.cell? ⟨gb101, 5, none⟩ = some (.slice (some ad107) l0_5.length c0_5) ∧ w'.cell? ⟨gb102, 0, none⟩ = some (.int .u32 a1_0) ∧ w'.cell? ⟨gb102, 1, none⟩ = some (.int .u32 a1_1) ∧ w'.cell? (ad107.add ((nn).toNat * 3)) = some (.int .u8 ((rd_T43 l0_5 nn).f0)) ∧ w'.cell? ⟨(ad107.add ((nn).toNat * 3)).block, (ad107.add ((nn).toNat * 3)).off + 1, none⟩ = some (.int .u16 ((rd_T43 l0_5 nn).f1)) ∧ w'.cell? ⟨(ad107.add ((nn).toNat * 3)).block, (ad107.add ((nn).toNat * 3)).off + 2, none⟩ = some (.int .u16 ((rd_T43 l0_5 nn).f2))) (ds := []) #[false, false, false, false, false, false, false, false, false, false, false, false, false] (by kernel_rfl) rfl rfl ⟨(blk_cell BK101.out 0).trans rfl, (blk_cell BK101.out 1).trans rfl, (blk_cell BK101.out 2).trans rfl, (blk_cell BK101.out 3).trans rfl, (blk_cell BK101.out 4).trans rfl, (blk_cell BK101.out 5).trans rfl, (blk_cell BK102.out 0).trans rfl, (blk_cell BK102.out 1).trans rfl, ((HB.out.cell (World.block_lt_of_cell? w _ hw107_0)).trans hw107_0), ((HB.out.cell (World.block_lt_of_cell? w _ hw107_1)).trans hw107_1), ((HB.out.cell (World.block_lt_of_cell? w _ hw107_2)).trans hw107_2)⟩ (fun hHeld => ?_); refine with_tabW link_Word.tab6 link_Word.bits6 (fun HT_ HW_ => ?_)
       generalize wc.drew = w23 at BK101 BK102 HB hx107_0 hx107_1 hx107_2 hHeld ⊢
       refine pure_ (i := 0) (N := some 39) (v := ?_) (a' := ?_) #[true, false, false, false, false, false, false, false, false, false, false, false, false] rfl rfl (any_of HT_.out (by kernel_rfl)) (fun _ _ _ h => h) (Or.inl ⟨by rfl, ?_⟩) ?_ ?_
       rotate_left
       ·intro w'
        go_simp
        with_reducible rfl
       rotate_left
       ·simp only [Act.put, List.setIfInBounds_toArray, List.set_cons_zero, List.set_cons_succ, i64_w, i32_w]
        rfl
       refine pure_ (i := 2) (N := some 41) (v := ?_) (a' := ?_) #[true, false, true, false, false, false, false, false, false, false, false, false, false] rfl rfl (any_of HT_.out (by kernel_rfl)) (fun _ _ _ h => h) (Or.inl ⟨by rfl, ?_⟩) ?_ ?_
       rotate_left
       ·intro w'
        go_simp
        with_reducible rfl
       rotate_left
       ·simp only [Act.put, List.setIfInBounds_toArray, List.set_cons_zero, List.set_cons_succ, i64_w, i32_w]
        rfl
       refine pure_ (i := 6) (N := some 45) (v := ?_) (a' := ?_) #[true, false, true, false, false, false, true, false, false, false, false, false, false] rfl rfl (any_of HT_.out (by kernel_rfl)) (fun _ _ _ h => h) (Or.inl ⟨by rfl, ?_⟩) ?_ ?_
       rotate_left
       ·intro w'
        go_simp
        with_reducible rfl
       rotate_left
       ·simp only [Act.put, List.setIfInBounds_toArray, List.set_cons_zero, List.set_cons_succ, i64_w, i32_w]
        rfl
       refine take_ (i := 1) (N := some 40) (v := ?_) (a' := ?_) #[true, true, true, false, false, false, true, false, false, false, false, false, false] rfl rfl (take_ofW HT_.out HW_.out (by kernel_rfl)) (fun _ _ _ h => h) (Or.inl ⟨by rfl, ?_⟩) hHeld ?_ ?_
       rotate_left
       ·rintro w' ⟨s0, s1, s2, s3, s4, s5, s6, s7, s8, s9, s10⟩
        go_simp
        with_reducible rfl
       rotate_left
       ·simp only [Act.put, List.setIfInBounds_toArray, List.set_cons_zero, List.set_cons_succ, i64_w, i32_w]
        rfl
       refine pure_ (i := 3) (N := some 42) (v := ?_) (a' := ?_) #[true, true, true, true, false, false, true, false, false, false, false, false, false] rfl rfl (any_of HT_.out (by kernel_rfl)) (fun _ _ _ h => h) (Or.inl ⟨by rfl, ?_⟩) ?_ ?_
       rotate_left
       ·intro w'
        go_simp
        with_reducible rfl
       rotate_left
       ·simp only [Act.put, List.setIfInBounds_toArray, List.set_cons_zero, List.set_cons_succ, i64_w, i32_w]
        rfl
       refine take_ (i := 4) (N := some 43) (v := ?_) (a' := ?_) #[true, true, true, true, true, false, true, false, false, false, false, false, false] rfl rfl (take_ofW HT_.out HW_.out (by kernel_rfl)) (fun _ _ _ h => h) (Or.inl ⟨by rfl, ?_⟩) hHeld ?_ ?_
       rotate_left
       ·rintro w' ⟨s0, s1, s2, s3, s4, s5, s6, s7, s8, s9, s10⟩
        go_simp
        with_reducible rfl
       rotate_left
       ·simp only [Act.put, List.setIfInBounds_toArray, List.set_cons_zero, List.set_cons_succ, i64_w, i32_w]
        rfl
       refine take_ (i := 5) (N := some 44) (v := ?_) (a' := ?_) #[true, true, true, true, true, true, true, false, false, false, false, false, false] rfl rfl (take_ofW HT_.out HW_.out (by kernel_rfl)) (fun _ _ _ h => h) (Or.inl ⟨by rfl, ?_⟩) hHeld ?_ ?_
       rotate_left
       ·rintro w' ⟨s0, s1, s2, s3, s4, s5, s6, s7, s8, s9, s10⟩
        go_simp
        with_reducible rfl
       rotate_left
       ·simp only [Act.put, List.setIfInBounds_toArray, List.set_cons_zero, List.set_cons_succ, i64_w, i32_w]
        rfl
       refine one_ (i := 7) (N := some 46) #[true, true, true, true, true, true, true, true, false, false, false, false, false] rfl rfl (one_of HT_.out (by kernel_rfl)) (by decide) (fun K hK => ?_)
       refine goes_ Tryd.func101 (by kernel_rfl) rfl #[.agg #[.int .u8 ((rd_T43 l0_5 nn).f0), .int .u16 ((rd_T43 l0_5 nn).f1), .int .u16 ((rd_T43 l0_5 nn).f2)], .agg #[.int .u32 a1_0, .int .u32 a1_1], .slice A2 l2.length c2] (by rfl) rfl rfl tm ?_
       with_reducible refine (reloc_Value.calls kj6 ((rd_T43 l0_5 nn).f0) ((rd_T43 l0_5 nn).f1) ((rd_T43 l0_5 nn).f2) a1_0 a1_1 _ _ l2 t108 t109 _ ?side1 ?side2 A20.out).mono ?_
       (case side1 => exact tc (Kd.C_below HR2.out HB.out))
       (case side2 => exact HC2.out)
       rintro e w24 ⟨rfl, hb⟩
       refine ⟨_, rfl, ?_⟩
       replace BK101 := ba BK101.out hb
       replace BK102 := ba BK102.out hb
       replace HB := Aside0.mk (below_step (tg2 HB.out GE101.out GE102.out) hb)
       (try clear hb)
       (try clear hb2)
       (try clear hk)
       (try clear hi)
       refine hK.out _ _ ⟨(blk_cell BK101.out 0).trans rfl, (blk_cell BK101.out 1).trans rfl, (blk_cell BK101.out 2).trans rfl, (blk_cell BK101.out 3).trans rfl, (blk_cell BK101.out 4).trans rfl, (blk_cell BK101.out 5).trans rfl, (blk_cell BK102.out 0).trans rfl, (blk_cell BK102.out 1).trans rfl, ((HB.out.cell (World.block_lt_of_cell? w _ hw107_0)).trans hw107_0), ((HB.out.cell (World.block_lt_of_cell? w _ hw107_1)).trans hw107_1), ((HB.out.cell (World.block_lt_of_cell? w _ hw107_2)).trans hw107_2)⟩ (fun hHeld => ?_)
       clear hK K
       refine norm_ (a' := ?_) ?_ ?_
       rotate_left
       ·show Act.put _ (some 46) _ = _
        simp only [Act.put, List.setIfInBounds_toArray, List.set_cons_zero, List.set_cons_succ, i64_w, i32_w]
        rfl
       refine pure_ (i := 8) (N := some 38) (v := ?_) (a' := ?_) #[true, true, true, true, true, true, true, true, true, false, false, false, false] rfl rfl (any_of HT_.out (by kernel_rfl)) (fun _ _ _ h => h) (Or.inl ⟨by rfl, ?_⟩) ?_ ?_
       rotate_left
       ·intro w'
        go_simp
        with_reducible rfl
       rotate_left
       ·simp only [Act.put, List.setIfInBounds_toArray, List.set_cons_zero, List.set_cons_succ, i64_w, i32_w]
        rfl
       refine pure_ (i := 9) (N := some 47) (v := ?_) (a' := ?_) #[true, true, true, true, true, true, true, true, true, true, false, false, false] rfl rfl (any_of HT_.out (by kernel_rfl)) (fun _ _ _ h => h) (Or.inl ⟨by rfl, ?_⟩) ?_ ?_
       rotate_left
       ·intro w'
        go_simp
        with_reducible rfl
       rotate_left
       ·simp only [Act.put, List.setIfInBounds_toArray, List.set_cons_zero, List.set_cons_succ, i64_w, i32_w]
        rfl
       refine pure_ (i := 10) (N := some 48) (v := ?_) (a' := ?_) #[true, true, true, true, true, true, true, true, true, true, true, false, false] rfl rfl (any_of HT_.out (by kernel_rfl)) (fun _ _ _ h => h) (Or.inl ⟨by rfl, ?_⟩) ?_ ?_
       rotate_left
       ·intro w'
        go_simp
        with_reducible rfl
       rotate_left
       ·simp only [Act.put, List.setIfInBounds_toArray, List.set_cons_zero, List.set_cons_succ, i64_w, i32_w]
        rfl
       refine pure_ (i := 11) (N := some 15) (v := ?_) (a' := ?_) #[true, true, true, true, true, true, true, true, true, true, true, true, false] rfl rfl (any_of HT_.out (by kernel_rfl)) (fun _ _ _ h => h) (Or.inl ⟨by rfl, ?_⟩) ?_ ?_
       rotate_left
       ·intro w'
        go_simp
        with_reducible rfl
       rotate_left
       ·simp only [Act.put, List.setIfInBounds_toArray, List.set_cons_zero, List.set_cons_succ, i64_w, i32_w]
        rfl
       refine pure_ (i := 12) (N := some 16) (v := ?_) (a' := ?_) #[true, true, true, true, true, true, true, true, true, true, true, true, true] rfl rfl (any_of HT_.out (by kernel_rfl)) (fun _ _ _ h => h) (Or.inl ⟨by rfl, ?_⟩) ?_ ?_
       rotate_left
       ·intro w'
        go_simp
        with_reducible rfl
       rotate_left
       ·simp only [Act.put, List.setIfInBounds_toArray, List.set_cons_zero, List.set_cons_succ, i64_w, i32_w]
        rfl
       refine done_ (done_of HT_.out (by kernel_rfl)) ?_
       have hnb25 := NB101_102.out
       have hnc25 := NB102_101.out
       have hcz26_0 := cz BK101.out 0 (.string a0_0)
       have hcz26_1 := cz BK101.out 1 (.slice A0_1 l0_1.length c0_1)
       have hcz26_2 := cz BK101.out 2 (.slice A0_2 l0_2.length c0_2)
       have hcz26_3 := cz BK101.out 3 (.slice A0_3 l0_3.length c0_3)
       have hcz26_4 := cz BK101.out 4 (.slice A0_4 l0_4.length c0_4)
       have hcz26_5 := cz BK101.out 5 (.slice (some ad107) l0_5.length c0_5)
       have hfz26_0 := blk_frozen BK101.out 0
       have hfz26_1 := blk_frozen BK101.out 1
       have hfz26_2 := blk_frozen BK101.out 2
       have hfz26_3 := blk_frozen BK101.out 3
       have hfz26_4 := blk_frozen BK101.out 4
       have hfz26_5 := blk_frozen BK101.out 5
       have p110 : 0 ≤ (nn : Int) := of_decide_eq_true (by first | (with_reducible assumption) | assumption)
       have q110 : nn < (l0_5.length : Int) := of_decide_eq_true (by first | (with_reducible assumption) | assumption)
       obtain ⟨ad110, e110, hx110_0, hx110_1, hx110_2⟩ := at_T43 HR0_5.out nn p110 q110
       obtain rfl : ad107 = ad110 := (by injection e110)
       replace hx110_0 := (HB.out.cell (World.block_lt_of_cell? w _ hx110_0)).trans hx110_0
       replace hx110_1 := (HB.out.cell (World.block_lt_of_cell? w _ hx110_1)).trans hx110_1
       replace hx110_2 := (HB.out.cell (World.block_lt_of_cell? w _ hx110_2)).trans hx110_2
       replace p110 := eq_true p110
       replace q110 := eq_true q110
       try go_wp2_with (first | ((with_reducible refine gate_callee (f := 102) rfl ?_); refine goesL_ (some 60) rfl rfl Tryd.func102 (by kernel_rfl) rfl #[.int .u32 t103, .int .u8 ((rd_T43 l0_5 nn).f0), .int .u32 t108] rfl tm ?_; (with_reducible refine (reloc_Apply.calls kj6 t103 ((rd_T43 l0_5 nn).f0) t108 t111 t112 _ A22.out).mono ?_); rintro e w27 ⟨rfl, hb⟩; refine ⟨_, rfl, ?_⟩; replace BK101 := ba BK101.out hb; replace BK102 := ba BK102.out hb; replace HB := Aside0.mk (below_step (tg2 HB.out GE101.out GE102.out) hb); (try clear hb); (try clear hb2); (try clear hk); (try clear hi)))
       go_ret2
       exact ⟨by first | rfl | (simp [errW_none, errW_some] <;> rfl) | (simp [*, errW_none, errW_some] <;> rfl), tg2 HB.out GE101.out GE102.out⟩
      ·rw [if_neg c21] at H
       have c21b0 : (t109 == 0) = false := beq_eq_false_iff_ne.mpr c21
       have c21b1 : (t109 != 0) = true := bne_iff_ne.mpr c21
       simp only [Option.some.injEq, Prod.mk.injEq] at H
       obtain ⟨rfl, rfl⟩ := H
       try go_wp2
       replace BK101 := Aside0.mk (blk_drew BK101.out)
       replace BK102 := Aside0.mk (blk_drew BK102.out)
       replace HB := Aside0.mk (below_drew1 HB.out)
       have p107 : 0 ≤ (nn : Int) := of_decide_eq_true (by first | (with_reducible assumption) | assumption)
       have q107 : nn < (l0_5.length : Int) := of_decide_eq_true (by first | (with_reducible assumption) | assumption)
       obtain ⟨ad107, e107, hx107_0, hx107_1, hx107_2⟩ := at_T43 HR0_5.out nn p107 q107
       have hw107_2 := hx107_2
       have hw107_1 := hx107_1
       have hw107_0 := hx107_0
       cases e107
       replace hx107_0 := (HB.out.cell (World.block_lt_of_cell? w _ hx107_0)).trans hx107_0
       replace hx107_1 := (HB.out.cell (World.block_lt_of_cell? w _ hx107_1)).trans hx107_1
       replace hx107_2 := (HB.out.cell (World.block_lt_of_cell? w _ hx107_2)).trans hx107_2
       replace p107 := eq_true p107
       replace q107 := eq_true q107
       refine start_ (n := 13) (S := fun w' => w'.cell? ⟨gb101, 0, none⟩ = some (.string a0_0) ∧ w'.cell? ⟨gb101, 1, none⟩ = some (.slice A0_1 l0_1.length c0_1) ∧ w'.cell? ⟨gb101, 2, none⟩ = some (.slice A0_2 l0_2.length c0_2) ∧ w'.cell? ⟨gb101, 3, none⟩ = some (.slice A0_3 l0_3.length c0_3) ∧ w'.cell? ⟨gb101, 4, none⟩ = some (.slice A0_4 l0_4.length c0_4) ∧ w'.cell? ⟨gb101, 5, none⟩ = some (.slice (some ad107) l0_5.length c0_5) ∧ w'.cell? ⟨gb102, 0, none⟩ = some (.int .u32 a1_0) ∧ w'.cell? ⟨gb102, 1, none⟩ = some (.int .u32 a1_1) ∧ w'.cell? (ad107.add ((nn).toNat * 3)) = some (.int .u8 ((rd_T43 l0_5 nn).f0)) ∧ w'.cell? ⟨(ad107.add ((nn).toNat * 3)).block, (ad107.add ((nn).toNat * 3)).off + 1, none⟩ = some (.int .u16 ((rd_T43 l0_5 nn).f1)) ∧ w'.cell? ⟨(ad107.add ((nn).toNat * 3)).block, (ad107.add ((nn).toNat * 3)).off + 2, none⟩ = some (.int .u16 ((rd_T43 l0_5 nn).f2))) (ds := []) #[false, false, false, false, false, false, false, false, false, false, false, false, false] (by kernel_rfl) rfl rfl ⟨(blk_cell BK101.out 0).trans rfl, (blk_cell BK101.out 1).trans rfl, (blk_cell BK101.out 2).trans rfl, (blk_cell BK101.out 3).trans rfl, (blk_cell BK101.out 4).trans rfl, (blk_cell BK101.out 5).trans rfl, (blk_cell BK102.out 0).trans rfl, (blk_cell BK102.out 1).trans rfl, ((HB.out.cell (World.block_lt_of_cell? w _ hw107_0)).trans hw107_0), ((HB.out.cell (World.block_lt_of_cell? w _ hw107_1)).trans hw107_1), ((HB.out.cell (World.block_lt_of_cell? w _ hw107_2)).trans hw107_2)⟩ (fun hHeld => ?_); refine with_tabW link_Word.tab6 link_Word.bits6 (fun HT_ HW_ => ?_)
       generalize wc.drew = w28 at BK101 BK102 HB hx107_0 hx107_1 hx107_2 hHeld ⊢
       refine pure_ (i := 0) (N := some 39) (v := ?_) (a' := ?_) #[true, false, false, false, false, false, false, false, false, false, false, false, false] rfl rfl (any_of HT_.out (by kernel_rfl)) (fun _ _ _ h => h) (Or.inl ⟨by rfl, ?_⟩) ?_ ?_
       rotate_left
       ·intro w'
        go_simp
        with_reducible rfl
       rotate_left
       ·simp only [Act.put, List.setIfInBounds_toArray, List.set_cons_zero, List.set_cons_succ, i64_w, i32_w]
        rfl
       refine pure_ (i := 2) (N := some 41) (v := ?_) (a' := ?_) #[true, false, true, false, false, false, false, false, false, false, false, false, false] rfl rfl (any_of HT_.out (by kernel_rfl)) (fun _ _ _ h => h) (Or.inl ⟨by rfl, ?_⟩) ?_ ?_
       rotate_left
       ·intro w'
        go_simp
        with_reducible rfl
       rotate_left
       ·simp only [Act.put, List.setIfInBounds_toArray, List.set_cons_zero, List.set_cons_succ, i64_w, i32_w]
        rfl
       refine pure_ (i := 6) (N := some 45) (v := ?_) (a' := ?_) #[true, false, true, false, false, false, true, false, false, false, false, false, false] rfl rfl (any_of HT_.out (by kernel_rfl)) (fun _ _ _ h => h) (Or.inl ⟨by rfl, ?_⟩) ?_ ?_
       rotate_left
       ·intro w'
        go_simp
        with_reducible rfl
       rotate_left
       ·simp only [Act.put, List.setIfInBounds_toArray, List.set_cons_zero, List.set_cons_succ, i64_w, i32_w]
        rfl
       refine take_ (i := 1) (N := some 40) (v := ?_) (a' := ?_) #[true, true, true, false, false, false, true, false, false, false, false, false, false] rfl rfl (take_ofW HT_.out HW_.out (by kernel_rfl)) (fun _ _ _ h => h) (Or.inl ⟨by rfl, ?_⟩) hHeld ?_ ?_
       rotate_left
       ·rintro w' ⟨s0, s1, s2, s3, s4, s5, s6, s7, s8, s9, s10⟩
        go_simp
        with_reducible rfl
       rotate_left
       ·simp only [Act.put, List.setIfInBounds_toArray, List.set_cons_zero, List.set_cons_succ, i64_w, i32_w]
        rfl
       refine pure_ (i := 3) (N := some 42) (v := ?_) (a' := ?_) #[true, true, true, true, false, false, true, false, false, false, false, false, false] rfl rfl (any_of HT_.out (by kernel_rfl)) (fun _ _ _ h => h) (Or.inl ⟨by rfl, ?_⟩) ?_ ?_
       rotate_left
       ·intro w'
        go_simp
        with_reducible rfl
       rotate_left
       ·simp only [Act.put, List.setIfInBounds_toArray, List.set_cons_zero, List.set_cons_succ, i64_w, i32_w]
        rfl
       refine take_ (i := 4) (N := some 43) (v := ?_) (a' := ?_) #[true, true, true, true, true, false, true, false, false, false, false, false, false] rfl rfl (take_ofW HT_.out HW_.out (by kernel_rfl)) (fun _ _ _ h => h) (Or.inl ⟨by rfl, ?_⟩) hHeld ?_ ?_
       rotate_left
       ·rintro w' ⟨s0, s1, s2, s3, s4, s5, s6, s7, s8, s9, s10⟩
        go_simp
        with_reducible rfl
       rotate_left
       ·simp only [Act.put, List.setIfInBounds_toArray, List.set_cons_zero, List.set_cons_succ, i64_w, i32_w]
        rfl
       refine take_ (i := 5) (N := some 44) (v := ?_) (a' := ?_) #[true, true, true, true, true, true, true, false, false, false, false, false, false] rfl rfl (take_ofW HT_.out HW_.out (by kernel_rfl)) (fun _ _ _ h => h) (Or.inl ⟨by rfl, ?_⟩) hHeld ?_ ?_
       rotate_left
       ·rintro w' ⟨s0, s1, s2, s3, s4, s5, s6, s7, s8, s9, s10⟩
        go_simp
        with_reducible rfl
       rotate_left
       ·simp only [Act.put, List.setIfInBounds_toArray, List.set_cons_zero, List.set_cons_succ, i64_w, i32_w]
        rfl
       refine one_ (i := 7) (N := some 46) #[true, true, true, true, true, true, true, true, false, false, false, false, false] rfl rfl (one_of HT_.out (by kernel_rfl)) (by decide) (fun K hK => ?_)
       refine goes_ Tryd.func101 (by kernel_rfl) rfl #[.agg #[.int .u8 ((rd_T43 l0_5 nn).f0), .int .u16 ((rd_T43 l0_5 nn).f1), .int .u16 ((rd_T43 l0_5 nn).f2)], .agg #[.int .u32 a1_0, .int .u32 a1_1], .slice A2 l2.length c2] (by rfl) rfl rfl tm ?_
       with_reducible refine (reloc_Value.calls kj6 ((rd_T43 l0_5 nn).f0) ((rd_T43 l0_5 nn).f1) ((rd_T43 l0_5 nn).f2) a1_0 a1_1 _ _ l2 t108 t109 _ ?side1 ?side2 A20.out).mono ?_
       (case side1 => exact tc (Kd.C_below HR2.out HB.out))
       (case side2 => exact HC2.out)
       rintro e w29 ⟨rfl, hb⟩
       refine ⟨_, rfl, ?_⟩
       replace BK101 := ba BK101.out hb
       replace BK102 := ba BK102.out hb
       replace HB := Aside0.mk (below_step (tg2 HB.out GE101.out GE102.out) hb)
       (try clear hb)
       (try clear hb2)
       (try clear hk)
       (try clear hi)
       refine hK.out _ _ ⟨(blk_cell BK101.out 0).trans rfl, (blk_cell BK101.out 1).trans rfl, (blk_cell BK101.out 2).trans rfl, (blk_cell BK101.out 3).trans rfl, (blk_cell BK101.out 4).trans rfl, (blk_cell BK101.out 5).trans rfl, (blk_cell BK102.out 0).trans rfl, (blk_cell BK102.out 1).trans rfl, ((HB.out.cell (World.block_lt_of_cell? w _ hw107_0)).trans hw107_0), ((HB.out.cell (World.block_lt_of_cell? w _ hw107_1)).trans hw107_1), ((HB.out.cell (World.block_lt_of_cell? w _ hw107_2)).trans hw107_2)⟩ (fun hHeld => ?_)
       clear hK K
       refine norm_ (a' := ?_) ?_ ?_
       rotate_left
       ·show Act.put _ (some 46) _ = _
        simp only [Act.put, List.setIfInBounds_toArray, List.set_cons_zero, List.set_cons_succ, i64_w, i32_w]
        rfl
       refine pure_ (i := 8) (N := some 38) (v := ?_) (a' := ?_) #[true, true, true, true, true, true, true, true, true, false, false, false, false] rfl rfl (any_of HT_.out (by kernel_rfl)) (fun _ _ _ h => h) (Or.inl ⟨by rfl, ?_⟩) ?_ ?_
       rotate_left
       ·intro w'
        go_simp
        with_reducible rfl
       rotate_left
       ·simp only [Act.put, List.setIfInBounds_toArray, List.set_cons_zero, List.set_cons_succ, i64_w, i32_w]
        rfl
       refine pure_ (i := 9) (N := some 47) (v := ?_) (a' := ?_) #[true, true, true, true, true, true, true, true, true, true, false, false, false] rfl rfl (any_of HT_.out (by kernel_rfl)) (fun _ _ _ h => h) (Or.inl ⟨by rfl, ?_⟩) ?_ ?_
       rotate_left
       ·intro w'
        go_simp
        with_reducible rfl
       rotate_left
       ·simp only [Act.put, List.setIfInBounds_toArray, List.set_cons_zero, List.set_cons_succ, i64_w, i32_w]
        rfl
       refine pure_ (i := 10) (N := some 48) (v := ?_) (a' := ?_) #[true, true, true, true, true, true, true, true, true, true, true, false, false] rfl rfl (any_of HT_.out (by kernel_rfl)) (fun _ _ _ h => h) (Or.inl ⟨by rfl, ?_⟩) ?_ ?_
       rotate_left
       ·intro w'
        go_simp
        with_reducible rfl
       rotate_left
       ·simp only [Act.put, List.setIfInBounds_toArray, List.set_cons_zero, List.set_cons_succ, i64_w, i32_w]
        rfl
       refine pure_ (i := 11) (N := some 15) (v := ?_) (a' := ?_) #[true, true, true, true, true, true, true, true, true, true, true, true, false] rfl rfl (any_of HT_.out (by kernel_rfl)) (fun _ _ _ h => h) (Or.inl ⟨by rfl, ?_⟩) ?_ ?_
       rotate_left
       ·intro w'
        go_simp
        with_reducible rfl
       rotate_left
       ·simp only [Act.put, List.setIfInBounds_toArray, List.set_cons_zero, List.set_cons_succ, i64_w, i32_w]
        rfl
       refine pure_ (i := 12) (N := some 16) (v := ?_) (a' := ?_) #[true, true, true, true, true, true, true, true, true, true, true, true, true] rfl rfl (any_of HT_.out (by kernel_rfl)) (fun _ _ _ h => h) (Or.inl ⟨by rfl, ?_⟩) ?_ ?_
       rotate_left
       ·intro w'
        go_simp
        with_reducible rfl
       rotate_left
       ·simp only [Act.put, List.setIfInBounds_toArray, List.set_cons_zero, List.set_cons_succ, i64_w, i32_w]
        rfl
       refine done_ (done_of HT_.out (by kernel_rfl)) ?_
       try go_wp2
       go_ret2
       exact ⟨by first | rfl | (simp [errW_none, errW_some] <;> rfl) | (simp [*, errW_none, errW_some] <;> rfl), tg2 HB.out GE101.out GE102.out⟩
     ·rw [if_neg c19] at H
      exact absurd H (by simp)
    ·rw [if_neg c18] at H
     exact absurd H (by simp)

end Go.Proofs.YtiphindialkmnaaDoor.X
end
section
namespace Go.Proofs.YtiphindialkmnaaDoor.X
open Go.RowKit Go.Proofs.YtiphindialkmnaaDoorW.PrintWords Go.Proofs.YtiphindialkmnaaDoorW.PrintLast Go.Proofs.YtiphindialkmnaaDoorW.PrintMore
attribute [local go_sem] max2_int min2_int max_two min_two max_three min_three max_four min_four
set_option linter.unusedVariables false
set_option linter.unusedSimpArgs false

/-! ### link_Image: function 33 -/
mutual
def link_Image.j0 : Nat → List Int → Bool → ByteArray → List ByteArray → List ByteArray → List Int → List Int → List (S43) → Int → Int → Option (List Int × Int)
 | 0, _, _, _, _, _, _, _, _, _, _ => none
 | k + 1, x2, x27, x102000, x102001, x102002, x102003, x102004, x102005, x103000, x103001 => if x27 = true then (some (([] : List Int), 5)) else ((layout_Of.f x102000 x102001 x102002 x102003 x102004 x102005).bind fun bt103 => ((layout_Words.f bt103.1 bt103.2).bind fun t105 => (link_Image.l0 k x2 ([] : List Int) t105 0 x102000 x102001 x102002 x102003 x102004 x102005 x103000 x103001)))
def link_Image.l0 : Nat → List Int → List Int → Int → Int → ByteArray → List ByteArray → List ByteArray → List Int → List Int → List (S43) → Int → Int → Option (List Int × Int)
 | 0, _, _, _, _, _, _, _, _, _, _, _, _ => none
 | k + 1, x2, x8, x30, x31, x102000, x102001, x102002, x102003, x102004, x102005, x103000, x103001 => if x31 < x30 then ((link_Word.f k x102000 x102001 x102002 x102003 x102004 x102005 x103000 x103001 x2 x31).bind fun bt106 => (if bt106.2 = 0 then (if x8.length < 35184372088832 then (link_Image.l0 k x2 (x8 ++ [bt106.1]) x30 (wrap64 (x31 + 1)) x102000 x102001 x102002 x102003 x102004 x102005 x103000 x103001) else (none)) else (some (([] : List Int), bt106.2)))) else (some (x8, 0))
end
def link_Image.f (k : Nat) (a0_0 : ByteArray) (l0_1 : List ByteArray) (l0_2 : List ByteArray) (l0_3 : List Int) (l0_4 : List Int) (l0_5 : List (S43)) (a1_0 : Int) (a1_1 : Int) (l2 : List Int) : Option (List Int × Int) := if (l0_3.length : Int) > 512 then (link_Image.j0 k l2 true a0_0 l0_1 l0_2 l0_3 l0_4 l0_5 a1_0 a1_1) else (if (l0_4.length : Int) > 128 then (link_Image.j0 k l2 true a0_0 l0_1 l0_2 l0_3 l0_4 l0_5 a1_0 a1_1) else (link_Image.j0 k l2 (decide ((l0_5.length : Int) > 256)) a0_0 l0_1 l0_2 l0_3 l0_4 l0_5 a1_0 a1_1))
theorem link_Image.mono_l : ∀ k, (∀ y0 y1 y2 y3 y4 y5 y6 y7 y8 y9, LeO (link_Image.j0 k y0 y1 y2 y3 y4 y5 y6 y7 y8 y9) (link_Image.j0 (k + 1) y0 y1 y2 y3 y4 y5 y6 y7 y8 y9)) ∧ (∀ y0 y1 y2 y3 y4 y5 y6 y7 y8 y9 y10 y11, LeO (link_Image.l0 k y0 y1 y2 y3 y4 y5 y6 y7 y8 y9 y10 y11) (link_Image.l0 (k + 1) y0 y1 y2 y3 y4 y5 y6 y7 y8 y9 y10 y11))
 | 0 => ⟨fun _ _ _ _ _ _ _ _ _ _ r h => by simp [link_Image.j0] at h, fun _ _ _ _ _ _ _ _ _ _ _ _ r h => by simp [link_Image.l0] at h⟩
 | k + 1 => by
  obtain ⟨ih0, ih1⟩ := link_Image.mono_l k
  refine ⟨?_, ?_⟩
  ·intro y0 y1 y2 y3 y4 y5 y6 y7 y8 y9
   unfold link_Image.j0
   repeat' first
   | (with_reducible exact ih0 _ _ _ _ _ _ _ _ _ _)
   | (with_reducible exact ih1 _ _ _ _ _ _ _ _ _ _ _ _)
   | (with_reducible exact link_Word.mono _ _ _ _ _ _ _ _ _ _ _)
   | (with_reducible exact LeO.refl _)
   | (with_reducible exact LeO.none _)
   | (with_reducible refine LeO.ite ?_ ?_)
   | (with_reducible refine LeO.bind ?_ (fun _ => ?_))
  ·intro y0 y1 y2 y3 y4 y5 y6 y7 y8 y9 y10 y11
   unfold link_Image.l0
   repeat' first
   | (with_reducible exact ih0 _ _ _ _ _ _ _ _ _ _)
   | (with_reducible exact ih1 _ _ _ _ _ _ _ _ _ _ _ _)
   | (with_reducible exact link_Word.mono _ _ _ _ _ _ _ _ _ _ _)
   | (with_reducible exact LeO.refl _)
   | (with_reducible exact LeO.none _)
   | (with_reducible refine LeO.ite ?_ ?_)
   | (with_reducible refine LeO.bind ?_ (fun _ => ?_))
theorem link_Image.mono : ∀ a0 a1 a2 a3 a4 a5 a6 a7 a8 k, LeO (link_Image.f k a0 a1 a2 a3 a4 a5 a6 a7 a8) (link_Image.f (k + 1) a0 a1 a2 a3 a4 a5 a6 a7 a8) := by
 intro a0 a1 a2 a3 a4 a5 a6 a7 a8 k
 obtain ⟨ih0, ih1⟩ := link_Image.mono_l k
 unfold link_Image.f
 repeat' first
   | (with_reducible exact ih0 _ _ _ _ _ _ _ _ _ _)
   | (with_reducible exact ih1 _ _ _ _ _ _ _ _ _ _ _ _)
   | (with_reducible exact link_Word.mono _ _ _ _ _ _ _ _ _ _ _)
   | (with_reducible exact LeO.refl _)
   | (with_reducible exact LeO.none _)
   | (with_reducible refine LeO.ite ?_ ?_)
   | (with_reducible refine LeO.bind ?_ (fun _ => ?_))
set_option maxHeartbeats 8000000 in
set_option maxRecDepth 100000 in
theorem link_Image.calls (k : Nat) (a0_0 : ByteArray) (A0_1 : Option Addr) (c0_1 : Nat) (l0_1 : List ByteArray) (A0_2 : Option Addr) (c0_2 : Nat) (l0_2 : List ByteArray) (A0_3 : Option Addr) (c0_3 : Nat) (l0_3 : List Int) (A0_4 : Option Addr) (c0_4 : Nat) (l0_4 : List Int) (A0_5 : Option Addr) (c0_5 : Nat) (l0_5 : List (S43)) (a1_0 : Int) (a1_1 : Int) (A2 : Option Addr) (c2 : Nat) (l2 : List Int) (r1 : List Int) (r2 : Int) (w : World) (hr0_1 : Kd.C Kd.string w A0_1 l0_1.length l0_1) (hc0_1 : l0_1.length ≤ c0_1) (hr0_2 : Kd.C Kd.string w A0_2 l0_2.length l0_2) (hc0_2 : l0_2.length ≤ c0_2) (hr0_3 : Kd.C (Kd.int .u32) w A0_3 l0_3.length l0_3) (hc0_3 : l0_3.length ≤ c0_3) (hr0_4 : Kd.C (Kd.int .u32) w A0_4 l0_4.length l0_4) (hc0_4 : l0_4.length ≤ c0_4) (hr0_5 : Kd.C k43 w A0_5 l0_5.length l0_5) (hc0_5 : l0_5.length ≤ c0_5) (hr2 : Kd.C (Kd.int .u32) w A2 l2.length l2) (hc2 : l2.length ≤ c2) (h : link_Image.f k a0_0 l0_1 l0_2 l0_3 l0_4 l0_5 a1_0 a1_1 l2 = some (r1, r2)) :
  Calls Tryd.prog 33 #[.agg #[.string a0_0, .slice A0_1 l0_1.length c0_1, .slice A0_2 l0_2.length c0_2, .slice A0_3 l0_3.length c0_3, .slice A0_4 l0_4.length c0_4, .slice A0_5 l0_5.length c0_5], .agg #[.int .u32 a1_0, .int .u32 a1_1], .slice A2 l2.length c2] w fun e w' => ∃ v0_ : Value, e = .returned (.tuple #[v0_, .int .i64 r2]) ∧ Kd.R (Kd.int .u32) 44 w' w.heap.size (fun _ => True) v0_ r1 ∧ Below w.heap.size w w' := by
 have hu26 := Tryd.underlying26
 have hu73 := Tryd.underlying73
 have HR0_1 := Aside0.mk hr0_1
 have HC0_1 := Aside0.mk hc0_1
 clear hr0_1 hc0_1
 have HR0_2 := Aside0.mk hr0_2
 have HC0_2 := Aside0.mk hc0_2
 clear hr0_2 hc0_2
 have HR0_3 := Aside0.mk hr0_3
 have HC0_3 := Aside0.mk hc0_3
 clear hr0_3 hc0_3
 have HR0_4 := Aside0.mk hr0_4
 have HC0_4 := Aside0.mk hc0_4
 clear hr0_4 hc0_4
 have HR0_5 := Aside0.mk hr0_5
 have HC0_5 := Aside0.mk hc0_5
 clear hr0_5 hc0_5
 have HR2 := Aside0.mk hr2
 have HC2 := Aside0.mk hc2
 clear hr2 hc2
 have HB := Aside0.mk (Below.refl w.heap.size w)
 have H : (if (l0_3.length : Int) > 512 then (link_Image.j0 k l2 true a0_0 l0_1 l0_2 l0_3 l0_4 l0_5 a1_0 a1_1) else (if (l0_4.length : Int) > 128 then (link_Image.j0 k l2 true a0_0 l0_1 l0_2 l0_3 l0_4 l0_5 a1_0 a1_1) else (link_Image.j0 k l2 (decide ((l0_5.length : Int) > 256)) a0_0 l0_1 l0_2 l0_3 l0_4 l0_5 a1_0 a1_1))) = some (r1, r2) := h
 clear h
 have HC4 := Aside0.mk H
 clear H
 go_enter Tryd.func33, Tryd.ntmps33
 go_upto_region 1 with (first | ((with_reducible refine gate_dst (N := 3) rfl ?_); (try (refine gate_guard (by rfl) ?_; dsimp only)); refine box_event ?hg (N := 3) ?hd (cs := #[.string a0_0, .slice A0_1 l0_1.length c0_1, .slice A0_2 l0_2.length c0_2, .slice A0_3 l0_3.length c0_3, .slice A0_4 l0_4.length c0_4, .slice A0_5 l0_5.length c0_5]) (t := 26) ?hr ?_; (case hd => rfl); (case hg => rfl); (case hr => first | (go_simp; done) | (go_simp; rfl)); intro gb101 hg w5 hbox hb; have n0_ := Aside0.mk (below_step (tg HB.out) hb); have n1_ := Aside0.mk (hbox); have n2_ := Aside0.mk ((by rw [hg]; exact (below_size (tg HB.out)) : w.heap.size ≤ gb101)); have n3_ := Aside0.mk ((by rw [hg]; exact (below_size (tg HB.out)) : w.heap.size ≤ gb101)); clear HB; have HB := n0_; have BK101 := n1_; have GW101 := n2_; have GE101 := n3_; clear n0_ n1_ n2_ n3_; clear hb hbox hg) | ((with_reducible refine gate_dst (N := 4) rfl ?_); (try (refine gate_guard (by rfl) ?_; dsimp only)); refine box_event ?hg (N := 4) ?hd (cs := #[.int .u32 a1_0, .int .u32 a1_1]) (t := 73) ?hr ?_; (case hd => rfl); (case hg => rfl); (case hr => first | (go_simp; done) | (go_simp; rfl)); intro gb102 hg w6 hbox hb; have n0_ := ba BK101.out hb; have n1_ := Aside0.mk (below_step (tg1 HB.out GE101.out) hb); have n2_ := Aside0.mk (hbox); have n3_ := Aside0.mk ((by rw [hg]; exact (below_size (tg1 HB.out GE101.out)) : w.heap.size ≤ gb102)); have n4_ := Aside0.mk ((by rw [hg]; exact (below_size (tg1 HB.out GE101.out)) : w.heap.size ≤ gb102)); have n5_ := Aside0.mk ((by rw [hg]; exact Nat.ne_of_lt (blk_lt (g := gb101) (o := .cells #[.string a0_0, .slice A0_1 l0_1.length c0_1, .slice A0_2 l0_2.length c0_2, .slice A0_3 l0_3.length c0_3, .slice A0_4 l0_4.length c0_4, .slice A0_5 l0_5.length c0_5] 26 (0, 0)) (tb BK101.out)) : gb101 ≠ gb102)); have n6_ := Aside0.mk ((by rw [hg]; exact Nat.ne_of_gt (blk_lt (g := gb101) (o := .cells #[.string a0_0, .slice A0_1 l0_1.length c0_1, .slice A0_2 l0_2.length c0_2, .slice A0_3 l0_3.length c0_3, .slice A0_4 l0_4.length c0_4, .slice A0_5 l0_5.length c0_5] 26 (0, 0)) (tb BK101.out)) : gb102 ≠ gb101)); clear BK101; clear HB; have BK101 := n0_; have HB := n1_; have BK102 := n2_; have GW102 := n3_; have GE102 := n4_; have NB101_102 := n5_; have NB102_101 := n6_; clear n0_ n1_ n2_ n3_ n4_ n5_ n6_; clear hb hbox hg))
 (try simp only [Act.put, List.setIfInBounds_toArray, List.set_cons_zero, List.set_cons_succ])
 go_cut [27] (fun v27 wc => ∃ (kq : Nat) (x27_3 : Bool), v27 = .bool x27_3 ∧ Aside0 (link_Image.j0 kq l2 x27_3 a0_0 l0_1 l0_2 l0_3 l0_4 l0_5 a1_0 a1_1 = some (r1, r2)) ∧ Aside0 (kq ≤ k) ∧ Aside0 (wc.heap[gb101]? = some (.cells #[.string a0_0, (.slice A0_1 l0_1.length c0_1), (.slice A0_2 l0_2.length c0_2), (.slice A0_3 l0_3.length c0_3), (.slice A0_4 l0_4.length c0_4), (.slice A0_5 l0_5.length c0_5)] 26 (0, 0))) ∧ Aside0 (wc.heap[gb102]? = some (.cells #[.int .u32 a1_0, .int .u32 a1_1] 73 (0, 0))) ∧ Aside0 (Below w.heap.size w wc))
 case first =>
  have H := HC4.out
  clear HC4
  by_cases c7 : (l0_3.length : Int) > 512
  ·rw [if_pos c7] at H
   have c7b0 : decide (512 < (l0_3.length : Int)) = true := decide_eq_true c7
   have c7b1 : decide (512 < l0_3.length) = true := decide_eq_true (by omega)
   clear c7
   (first | rw [c7b0] | (simp only [i64_w, i32_w]; rw [c7b0]) | skip)
   have H' := Aside0.mk H
   clear H
   have hnb8 := NB101_102.out
   have hnc8 := NB102_101.out
   obtain ⟨hcz9_0, hcz9_1, hcz9_2, hcz9_3, hcz9_4, hcz9_5, hfz9_0, hfz9_1, hfz9_2, hfz9_3, hfz9_4, hfz9_5⟩ := cq6 BK101.out
   go_wp2
   go_meet
   case rel => exact ⟨_, (true), ts, H', ⟨tn⟩, ⟨tb BK101.out⟩, ⟨tb BK102.out⟩, ⟨tg2 HB.out GE101.out GE102.out⟩⟩
  ·rw [if_neg c7] at H
   have c7b0 : decide (512 < (l0_3.length : Int)) = false := decide_eq_false c7
   have c7b1 : decide (512 < l0_3.length) = false := decide_eq_false (by omega)
   clear c7
   (first | rw [c7b0] | (simp only [i64_w, i32_w]; rw [c7b0]) | skip)
   by_cases c10 : (l0_4.length : Int) > 128
   ·rw [if_pos c10] at H
    have c10b0 : decide (128 < (l0_4.length : Int)) = true := decide_eq_true c10
    have c10b1 : decide (128 < l0_4.length) = true := decide_eq_true (by omega)
    clear c10
    have H' := Aside0.mk H
    clear H
    have hnb11 := NB101_102.out
    have hnc11 := NB102_101.out
    obtain ⟨hcz12_0, hcz12_1, hcz12_2, hcz12_3, hcz12_4, hcz12_5, hfz12_0, hfz12_1, hfz12_2, hfz12_3, hfz12_4, hfz12_5⟩ := cq6 BK101.out
    go_wp2
    go_meet
    case rel => exact ⟨_, (true), ts, H', ⟨tn⟩, ⟨tb BK101.out⟩, ⟨tb BK102.out⟩, ⟨tg2 HB.out GE101.out GE102.out⟩⟩
   ·rw [if_neg c10] at H
    have c10b0 : decide (128 < (l0_4.length : Int)) = false := decide_eq_false c10
    have c10b1 : decide (128 < l0_4.length) = false := decide_eq_false (by omega)
    clear c10
    have H' := Aside0.mk H
    clear H
    have hnb13 := NB101_102.out
    have hnc13 := NB102_101.out
    obtain ⟨hcz14_0, hcz14_1, hcz14_2, hcz14_3, hcz14_4, hcz14_5, hfz14_0, hfz14_1, hfz14_2, hfz14_3, hfz14_4, hfz14_5⟩ := cq6 BK101.out
    go_wp2
    go_meet
    case rel => exact ⟨_, (decide ((l0_5.length : Int) > 256)), ts, H', ⟨tn⟩, ⟨tb BK101.out⟩, ⟨tb BK102.out⟩, ⟨tg2 HB.out GE101.out GE102.out⟩⟩
 case rest =>
  clear HC4
  try clear c1
  try clear c2
  try clear p2
  try clear c3
  try clear c7
  try clear c7b0
  try clear c7b1
  try clear c8
  try clear c10
  try clear c10b0
  try clear c10b1
  try clear c11
  try clear c13
  try clear hcz12_0 hcz12_1 hcz12_2 hcz12_3 hcz12_4 hcz12_5 hfz12_0 hfz12_1 hfz12_2 hfz12_3 hfz12_4 hfz12_5
  try clear hcz14_0 hcz14_1 hcz14_2 hcz14_3 hcz14_4 hcz14_5 hfz14_0 hfz14_1 hfz14_2 hfz14_3 hfz14_4 hfz14_5
  try clear hcz9_0 hcz9_1 hcz9_2 hcz9_3 hcz9_4 hcz9_5 hfz9_0 hfz9_1 hfz9_2 hfz9_3 hfz9_4 hfz9_5
  obtain ⟨kq, x27_3, rfl, HA, HJ3, BK101, BK102, HB⟩ := hcut
  cases kq with
  | zero => exact absurd HA.out (by simp [link_Image.j0])
  | succ kj3 =>
   have H := HA.out
   clear HA
   simp only [link_Image.j0] at H
   by_cases c15 : x27_3 = true
   ·subst c15
    have H1 : (some (([] : List Int), 5)) = some (r1, r2) := by rw [if_pos rfl] at H; exact H
    clear H
    have H := H1
    clear H1
    simp only [Option.some.injEq, Prod.mk.injEq] at H
    obtain ⟨rfl, rfl⟩ := H
    go_wp2
    go_ret2
    exact ⟨_, te, by first | exact Kd.R_nil _ _ _ _ _ | exact Kd.N_nil _ _ _ _ _ | exact Kd.V_nil _ _ _ _ _ | exact Kd.Q_nil _ _ _ _ _ | exact Kd.S_nil _ _ _ _ _, tg2 HB.out GE101.out GE102.out⟩
   ·replace c15 := Bool.eq_false_iff.mpr c15
    subst c15
    have H1 : ((layout_Of.f a0_0 l0_1 l0_2 l0_3 l0_4 l0_5).bind fun bt103 => ((layout_Words.f bt103.1 bt103.2).bind fun t105 => (link_Image.l0 kj3 l2 ([] : List Int) t105 0 a0_0 l0_1 l0_2 l0_3 l0_4 l0_5 a1_0 a1_1))) = some (r1, r2) := by rw [if_neg (show ¬ (false = true) by decide)] at H; exact H
    clear H
    have H := H1
    clear H1
    replace H := Option.bind_eq_some_iff.mp H
    obtain ⟨⟨t103, t104⟩, A160, H⟩ := H
    replace H : ((layout_Words.f t103 t104).bind fun t105 => (link_Image.l0 kj3 l2 ([] : List Int) t105 0 a0_0 l0_1 l0_2 l0_3 l0_4 l0_5 a1_0 a1_1)) = some (r1, r2) := H
    have A16 := Aside0.mk A160
    clear A160
    replace H := Option.bind_eq_some_iff.mp H
    obtain ⟨t105, A170, H⟩ := H
    replace H : (link_Image.l0 kj3 l2 ([] : List Int) t105 0 a0_0 l0_1 l0_2 l0_3 l0_4 l0_5 a1_0 a1_1) = some (r1, r2) := H
    have A17 := Aside0.mk A170
    clear A170
    have H' := Aside0.mk H
    clear H
    have hnb18 := NB101_102.out
    have hnc18 := NB102_101.out
    obtain ⟨hcz19_0, hcz19_1, hcz19_2, hcz19_3, hcz19_4, hcz19_5, hfz19_0, hfz19_1, hfz19_2, hfz19_3, hfz19_4, hfz19_5⟩ := cq6 BK101.out
    go_wp2_with (first | ((with_reducible refine gate_callee (f := 32) rfl ?_); refine goesL_ (some 29) rfl rfl Tryd.func32 (by kernel_rfl) rfl #[.agg #[.string a0_0, .slice A0_1 l0_1.length c0_1, .slice A0_2 l0_2.length c0_2, .slice A0_3 l0_3.length c0_3, .slice A0_4 l0_4.length c0_4, .slice A0_5 l0_5.length c0_5]] rfl tm ?_; (with_reducible refine (layout_Of.calls a0_0 _ _ l0_1 _ _ l0_2 _ _ l0_3 _ _ l0_4 _ _ l0_5 t103 t104 _ (tc (Kd.C_below HR0_1.out HB.out)) HC0_1.out (tc (Kd.C_below HR0_2.out HB.out)) HC0_2.out (tc (Kd.C_below HR0_3.out HB.out)) HC0_3.out (tc (Kd.C_below HR0_4.out HB.out)) HC0_4.out (tc (Kd.C_below HR0_5.out HB.out)) HC0_5.out A16.out).mono ?_); rintro e w20 ⟨rfl, hb⟩; refine ⟨_, rfl, ?_⟩; replace BK101 := ba BK101.out hb; replace BK102 := ba BK102.out hb; replace HB := Aside0.mk (below_step (tg2 HB.out GE101.out GE102.out) hb); (try clear hb)) | ((with_reducible refine gate_callee (f := 34) rfl ?_); refine goesL_ (some 30) rfl rfl Tryd.func34 (by kernel_rfl) rfl #[.agg #[.int .i64 t103, .int .i64 t104]] rfl tm ?_; (with_reducible refine (layout_Words.calls t103 t104 t105 _ A17.out).mono ?_); rintro e w21 ⟨rfl, hb⟩; refine ⟨_, rfl, ?_⟩; replace BK101 := ba BK101.out hb; replace BK102 := ba BK102.out hb; replace HB := Aside0.mk (below_step (tg2 HB.out GE101.out GE102.out) hb); (try clear hb)))
    go_loopg [8, 31] kj3 (fun kq v8 v31 w' => ∃ (x8_2 : List Int) (x31_2 : Int), v31 = .int .i64 x31_2 ∧ Aside0 (link_Image.l0 kq l2 x8_2 t105 x31_2 a0_0 l0_1 l0_2 l0_3 l0_4 l0_5 a1_0 a1_1 = some (r1, r2)) ∧ Aside0 (kq ≤ kj3) ∧ Aside0 (Kd.R (Kd.int .u32) 44 w' w.heap.size (fun _ => True) v8 x8_2) ∧ Aside0 (w'.heap[gb101]? = some (.cells #[.string a0_0, (.slice A0_1 l0_1.length c0_1), (.slice A0_2 l0_2.length c0_2), (.slice A0_3 l0_3.length c0_3), (.slice A0_4 l0_4.length c0_4), (.slice A0_5 l0_5.length c0_5)] 26 (0, 0))) ∧ Aside0 (w'.heap[gb102]? = some (.cells #[.int .u32 a1_0, .int .u32 a1_1] 73 (0, 0))) ∧ Aside0 (Below w.heap.size w w'))
    case atStart => exact ⟨(([] : List Int)), (0), ts, H', ⟨Nat.le_refl _⟩, ⟨by first | exact Kd.R_nil _ _ _ _ _ | exact Kd.N_nil _ _ _ _ _ | exact Kd.V_nil _ _ _ _ _ | exact Kd.Q_nil _ _ _ _ _ | exact Kd.S_nil _ _ _ _ _⟩, ⟨tb BK101.out⟩, ⟨tb BK102.out⟩, ⟨tg2 HB.out GE101.out GE102.out⟩⟩
    case round =>
     clear H'
     try clear c1
     try clear c2
     try clear p2
     try clear c3
     try clear c7
     try clear c7b0
     try clear c7b1
     try clear c8
     try clear c10
     try clear c10b0
     try clear c10b1
     try clear c11
     try clear c13
     try clear c15
     try clear c18
     try clear hcz12_0 hcz12_1 hcz12_2 hcz12_3 hcz12_4 hcz12_5 hfz12_0 hfz12_1 hfz12_2 hfz12_3 hfz12_4 hfz12_5
     try clear hcz14_0 hcz14_1 hcz14_2 hcz14_3 hcz14_4 hcz14_5 hfz14_0 hfz14_1 hfz14_2 hfz14_3 hfz14_4 hfz14_5
     try clear hcz19_0 hcz19_1 hcz19_2 hcz19_3 hcz19_4 hcz19_5 hfz19_0 hfz19_1 hfz19_2 hfz19_3 hfz19_4 hfz19_5
     try clear hcz9_0 hcz9_1 hcz9_2 hcz9_3 hcz9_4 hcz9_5 hfz9_0 hfz9_1 hfz9_2 hfz9_3 hfz9_4 hfz9_5
     try clear p2
     obtain ⟨x8_2, x31_2, rfl, HA, HK2, HO_8, BK101, BK102, HB⟩ := hrel
     cases gk with
     | zero => exact absurd HA.out (by simp [link_Image.l0])
     | succ k2 =>
      have H := HA.out
      clear HA
      simp only [link_Image.l0] at H
      by_cases c22 : x31_2 < t105
      ·rw [if_pos c22] at H
       have c22b0 : decide (x31_2 < t105) = true := decide_eq_true c22
       clear c22
       replace H := Option.bind_eq_some_iff.mp H
       obtain ⟨⟨t106, t107⟩, A230, H⟩ := H
       replace H : (if t107 = 0 then (if x8_2.length < 35184372088832 then (link_Image.l0 k2 l2 (x8_2 ++ [t106]) t105 (wrap64 (x31_2 + 1)) a0_0 l0_1 l0_2 l0_3 l0_4 l0_5 a1_0 a1_1) else (none)) else (some (([] : List Int), t107))) = some (r1, r2) := H
       have A23 := Aside0.mk A230
       clear A230
       by_cases c24 : t107 = 0
       ·rw [if_pos c24] at H
        have c24b0 : (t107 == 0) = true := beq_iff_eq.mpr c24
        have c24b1 : (t107 != 0) = false := bne_eq_false_iff_eq.mpr c24
        clear c24
        by_cases c25 : x8_2.length < 35184372088832
        ·rw [if_pos c25] at H
         have LMc25 := Aside0.mk c25
         clear c25
         obtain ⟨y108, hy108⟩ : ∃ y_ : List Int, y_ = (x8_2 ++ [t106]) := ⟨_, rfl⟩
         replace H : (link_Image.l0 k2 l2 y108 t105 (wrap64 (x31_2 + 1)) a0_0 l0_1 l0_2 l0_3 l0_4 l0_5 a1_0 a1_1) = some (r1, r2) := by first | (rw [hy108]; with_reducible exact H) | (have H2_ := (Option.bind_some _ _).symm.trans H; rw [hy108]; with_reducible exact H2_) | (have H2_ := (Option.bind_some _ _).symm.trans H; with_reducible exact H2_) | with_reducible exact H | (rw [hy108]; exact H) | exact H
         have Ny108 := Aside0.mk hy108
         clear hy108
         have H' := Aside0.mk H
         clear H
         have hnb26 := NB101_102.out
         have hnc26 := NB102_101.out
         obtain ⟨hcz27_0, hcz27_1, hcz27_2, hcz27_3, hcz27_4, hcz27_5, hfz27_0, hfz27_1, hfz27_2, hfz27_3, hfz27_4, hfz27_5⟩ := cq6 BK101.out
         obtain ⟨hcz28_0, hcz28_1, hfz28_0, hfz28_1⟩ := cq2 BK102.out
         go_wp2_with (first | ((with_reducible refine gate_callee (f := 71) rfl ?_); refine goesL_ (some 39) rfl rfl Tryd.func71 (by kernel_rfl) rfl #[.agg #[.string a0_0, .slice A0_1 l0_1.length c0_1, .slice A0_2 l0_2.length c0_2, .slice A0_3 l0_3.length c0_3, .slice A0_4 l0_4.length c0_4, .slice A0_5 l0_5.length c0_5], .agg #[.int .u32 a1_0, .int .u32 a1_1], .slice A2 l2.length c2, .int .i64 x31_2] rfl tm ?_; (with_reducible refine (link_Word.calls k2 a0_0 _ _ l0_1 _ _ l0_2 _ _ l0_3 _ _ l0_4 _ _ l0_5 a1_0 a1_1 _ _ l2 x31_2 t106 t107 _ (tc (Kd.C_below HR0_1.out HB.out)) HC0_1.out (tc (Kd.C_below HR0_2.out HB.out)) HC0_2.out (tc (Kd.C_below HR0_3.out HB.out)) HC0_3.out (tc (Kd.C_below HR0_4.out HB.out)) HC0_4.out (tc (Kd.C_below HR0_5.out HB.out)) HC0_5.out (tc (Kd.C_below HR2.out HB.out)) HC2.out A23.out).mono ?_); rintro e w29 ⟨rfl, hb⟩; refine ⟨_, rfl, ?_⟩; replace HO_8 := ra HO_8.out hb; replace BK101 := ba BK101.out hb; replace BK102 := ba BK102.out hb; replace HB := Aside0.mk (below_step (tg2 HB.out GE101.out GE102.out) hb); (try clear hb)) | ((with_reducible refine gate_builtin (b := .append) (xs := #[.tmp 45, .tmp 47]) rfl ?_); (try (refine gate_guard (by rfl) ?_; dsimp only)); at_builtin; refine Kd.R_append (Kd.int .u32) (w0 := w) w.heap.size rfl (.tmp 45) (.tmp 47) 23 44 (.int .u32 0) 4 rfl Tryd.underlying23 info44 rfl (by decide) (by omega) u8 x8_2 t106 [.int .u32 t106] (fun _ => True) (fun _ => False) rfl rfl ?aP (fun _ hk => hk.elim) ?aF ?aO ?aB ?aS ?aL ?_; (case aP => exact rfl); (case aB => exact (tg2 HB.out GE101.out GE102.out)); (case aF => exact (fun _ _ => trivial)); (case aO => exact (tk HO_8.out)); (case aS => exact (below_size (tg2 HB.out GE101.out GE102.out))); (case aL => have := LMc25.out; omega); intro v109 w30 ho hb hg hat; rw [← Ny108.out] at ho; have n0_ := Aside0.mk (blk_grown (g := gb101) (o := .cells #[.string a0_0, .slice A0_1 l0_1.length c0_1, .slice A0_2 l0_2.length c0_2, .slice A0_3 l0_3.length c0_3, .slice A0_4 l0_4.length c0_4, .slice A0_5 l0_5.length c0_5] 26 (0, 0)) (tb BK101.out) hg (Kd.R_ne HO_8.out BK101.out (by decide))); have n1_ := Aside0.mk (blk_grown (g := gb102) (o := .cells #[.int .u32 a1_0, .int .u32 a1_1] 73 (0, 0)) (tb BK102.out) hg (Kd.R_ne HO_8.out BK102.out (by decide))); have n2_ := Aside0.mk (hb); have n3_ := Aside0.mk (ho); clear BK101; clear BK102; clear HB; clear HO_8; have BK101 := n0_; have BK102 := n1_; have HB := n2_; have HO110 := n3_; clear n0_ n1_ n2_ n3_; clear ho hb hg hat))
         go_roundg k2
         case measure => have := HJ3.out; have := HK2.out; omega
         case rel => exact ⟨(y108), (wrap64 (x31_2 + 1)), ts, H', ⟨by have := HJ3.out; have := HK2.out; omega⟩, ⟨tk HO110.out⟩, ⟨tb BK101.out⟩, ⟨tb BK102.out⟩, ⟨tg2 HB.out GE101.out GE102.out⟩⟩
        ·rw [if_neg c25] at H
         exact absurd H (by simp)
       ·rw [if_neg c24] at H
        have c24b0 : (t107 == 0) = false := beq_eq_false_iff_ne.mpr c24
        have c24b1 : (t107 != 0) = true := bne_iff_ne.mpr c24
        simp only [Option.some.injEq, Prod.mk.injEq] at H
        obtain ⟨rfl, rfl⟩ := H
        have hnb31 := NB101_102.out
        have hnc31 := NB102_101.out
        obtain ⟨hcz32_0, hcz32_1, hcz32_2, hcz32_3, hcz32_4, hcz32_5, hfz32_0, hfz32_1, hfz32_2, hfz32_3, hfz32_4, hfz32_5⟩ := cq6 BK101.out
        obtain ⟨hcz33_0, hcz33_1, hfz33_0, hfz33_1⟩ := cq2 BK102.out
        go_wp2_with (first | ((with_reducible refine gate_callee (f := 71) rfl ?_); refine goesL_ (some 39) rfl rfl Tryd.func71 (by kernel_rfl) rfl #[.agg #[.string a0_0, .slice A0_1 l0_1.length c0_1, .slice A0_2 l0_2.length c0_2, .slice A0_3 l0_3.length c0_3, .slice A0_4 l0_4.length c0_4, .slice A0_5 l0_5.length c0_5], .agg #[.int .u32 a1_0, .int .u32 a1_1], .slice A2 l2.length c2, .int .i64 x31_2] rfl tm ?_; (with_reducible refine (link_Word.calls k2 a0_0 _ _ l0_1 _ _ l0_2 _ _ l0_3 _ _ l0_4 _ _ l0_5 a1_0 a1_1 _ _ l2 x31_2 t106 t107 _ (tc (Kd.C_below HR0_1.out HB.out)) HC0_1.out (tc (Kd.C_below HR0_2.out HB.out)) HC0_2.out (tc (Kd.C_below HR0_3.out HB.out)) HC0_3.out (tc (Kd.C_below HR0_4.out HB.out)) HC0_4.out (tc (Kd.C_below HR0_5.out HB.out)) HC0_5.out (tc (Kd.C_below HR2.out HB.out)) HC2.out A23.out).mono ?_); rintro e w34 ⟨rfl, hb⟩; refine ⟨_, rfl, ?_⟩; replace HO_8 := ra HO_8.out hb; replace BK101 := ba BK101.out hb; replace BK102 := ba BK102.out hb; replace HB := Aside0.mk (below_step (tg2 HB.out GE101.out GE102.out) hb); (try clear hb)))
        go_ret2
        exact ⟨_, te, by first | exact Kd.R_nil _ _ _ _ _ | exact Kd.N_nil _ _ _ _ _ | exact Kd.V_nil _ _ _ _ _ | exact Kd.Q_nil _ _ _ _ _ | exact Kd.S_nil _ _ _ _ _, tg2 HB.out GE101.out GE102.out⟩
      ·rw [if_neg c22] at H
       have c22b0 : decide (x31_2 < t105) = false := decide_eq_false c22
       clear c22
       simp only [Option.some.injEq, Prod.mk.injEq] at H
       obtain ⟨rfl, rfl⟩ := H
       go_wp2
       go_ret2
       exact ⟨_, te, tk HO_8.out, tg2 HB.out GE101.out GE102.out⟩

end Go.Proofs.YtiphindialkmnaaDoor.X
end
section
namespace Go.Proofs.YtiphindialkmnaaDoor.X
open Go.RowKit Go.Proofs.YtiphindialkmnaaDoorW.PrintWords Go.Proofs.YtiphindialkmnaaDoorW.PrintLast Go.Proofs.YtiphindialkmnaaDoorW.PrintMore
set_option linter.unusedSimpArgs false
set_option linter.unusedVariables false
theorem up_nat (n : Nat) (h : n ≤ 4000) : layout_up.f (n : Int) = some (((n + 15) / 16 : Nat) : Int) := by
  unfold layout_up.f
  rw [w64 ((n : Int) + 16) (by omega), w64 ((n : Int) + 16 - 1) (by omega)]
  have e : Int.tdiv ((n : Int) + 16 - 1) 16 = (((n + 15) / 16 : Nat) : Int) := by
    rw [show (n : Int) + 16 - 1 = ((n + 15 : Nat) : Int) by omega]
    rfl
  rw [e, w64 _ (by omega)]
def pages (n : Nat) : Nat := (n + 15) / 16
/-- what a word of a plan is -/
def spotV (l3 l4 : List Int) (i : Nat) : Bool × Int × Bool :=
  if i < l3.length then (true, (i : Int), true) else if i < 16 * pages l3.length then (false, 0, false) else if i - 16 * pages l3.length < l4.length then (false, ((i - 16 * pages l3.length : Nat) : Int), true) else (false, 0, false)
theorem Spot_at (a0 : ByteArray) (l1 l2 : List ByteArray) (l3 l4 : List Int) (l5 : List S43) (h3 : l3.length ≤ 4000) (h4 : l4.length ≤ 4000) (i : Nat) (hi : i ≤ 100000) : layout_Spot.f a0 l1 l2 l3 l4 l5 (i : Int) = some (spotV l3 l4 i) := by
  unfold layout_Spot.f spotV pages
  rw [if_neg (by omega), up_nat _ h3, Option.bind_some]
  have hp : (l3.length + 15) / 16 ≤ 300 := by omega
  generalize (l3.length + 15) / 16 = p at hp ⊢
  rw [w64 ((p : Int) * 16) (by omega), w64 _ (by omega)]
  by_cases c1 : i < l3.length
  · rw [if_pos (by omega), if_pos c1]
  rw [if_neg (by omega), if_neg c1]
  by_cases c2 : i < 16 * p
  · rw [if_pos (by omega), if_pos c2]
  rw [if_neg (by omega), if_neg c2]
  by_cases c3 : i - 16 * p < l4.length
  · rw [if_neg (by omega), if_pos c3]
    have e : (i : Int) - (p : Int) * 16 = ((i - 16 * p : Nat) : Int) := by omega
    rw [e]
  · rw [if_pos (by omega), if_neg c3]
theorem spotV_ok {l3 l4 : List Int} {i : Nat} (h : (spotV l3 l4 i).2.2 = true) : ∃ p : Nat, (spotV l3 l4 i).2.1 = (p : Int) ∧ p < (if (spotV l3 l4 i).1 = true then l3.length else l4.length) := by
  unfold spotV at h ⊢
  split
  · rename_i c; exact ⟨i, rfl, by simpa using c⟩
  · rename_i c
    rw [if_neg c] at h
    split
    · rename_i c2; rw [if_pos c2] at h; cases h
    · rename_i c2
      rw [if_neg c2] at h
      split
      · rename_i c3; exact ⟨_, rfl, by simpa using c3⟩
      · rename_i c3; rw [if_neg c3] at h; cases h
def rawV (l3 l4 : List Int) (i : Nat) : Int := if (spotV l3 l4 i).2.2 = true then (if (spotV l3 l4 i).1 = true then rd l3 (spotV l3 l4 i).2.1 else rd l4 (spotV l3 l4 i).2.1) else 0
theorem Raw_at (a0 : ByteArray) (l1 l2 : List ByteArray) (l3 l4 : List Int) (l5 : List S43) (h3 : l3.length ≤ 4000) (h4 : l4.length ≤ 4000) (i : Nat) (hi : i ≤ 100000) : layout_Raw.f a0 l1 l2 l3 l4 l5 (i : Int) = some (rawV l3 l4 i) := by
  unfold layout_Raw.f rawV
  rw [Spot_at a0 l1 l2 l3 l4 l5 h3 h4 i hi, Option.bind_some]
  by_cases c : (spotV l3 l4 i).2.2 = true
  · obtain ⟨p, hp, hlt⟩ := spotV_ok c
    rw [if_pos c, if_pos c]
    by_cases c2 : (spotV l3 l4 i).1 = true
    · rw [if_pos c2] at hlt
      rw [if_pos c2, if_pos c2, hp, if_pos (by omega), if_pos (by omega)]
    · rw [if_neg c2] at hlt
      rw [if_neg c2, if_neg c2, hp, if_pos (by omega), if_pos (by omega)]
  · rw [if_neg c, if_neg c]
/-- the relocation of a word, if there is one -/
def relAt (l3 l4 : List Int) (l5 : List S43) (i : Nat) : Option Nat :=
  if (spotV l3 l4 i).2.2 = true then first (fun j => wordIs (spotV l3 l4 i).2.1 (spotV l3 l4 i).1 (l5.getD j z43)) l5.length 0 else none
theorem dataK_isCode (a : Int) : dataK a = !isCode a := by
  unfold dataK isCode
  by_cases h4 : a = 4 <;> by_cases h5 : a = 5 <;> by_cases h6 : a = 6 <;> simp [h4, h5, h6]
theorem wordIs_spot {r : S43} (hw : wfR r) (h7 : r.f0 ≤ 7) (at_ : Int) (code : Bool) : wordIs at_ code r = true ↔ spot r = (code, at_) := by
  unfold wordIs spot
  rw [w64 _ (by have := hw.2.2; omega), dataK_isCode, Bool.and_eq_true, Bool.and_eq_true, decide_eq_true_iff, decide_eq_true_iff]
  constructor
  · rintro ⟨h1, h2, _⟩
    have e : isCode r.f0 = code := by
      revert h2
      cases isCode r.f0 <;> cases code <;> decide
    rw [h1, e]
  · intro h
    injection h with h1 h2
    refine ⟨h2, ?_, h7⟩
    rw [h1]
    cases code <;> rfl
/-- the address that a relocation stands for -/
def valV (r : S43) (p0 p1 : Int) (sl : List Int) : Int :=
  if r.f0 = 0 ∨ r.f0 = 1 ∨ r.f0 = 4 then rd sl r.f2 else if r.f0 = 2 ∨ r.f0 = 5 then (p1 + r.f2) % 4294967296 else (p0 + r.f2) % 4294967296
theorem Value_at {r : S43} (hw : wfR r) (h7 : r.f0 ≤ 7) (p0 p1 : Int) (sl : List Int) (k : Nat) (hk : 3 ≤ k) (hs : r.f0 = 0 ∨ r.f0 = 1 ∨ r.f0 = 4 → r.f2 < (sl.length : Int)) :
    reloc_Value.f k r.f0 r.f1 r.f2 p0 p1 sl = some (valV r p0 p1 sl, 0) := by
  obtain ⟨k, rfl⟩ : ∃ k', k = k' + 3 := ⟨k - 3, by omega⟩
  obtain ⟨f0, f1, f2⟩ := r
  obtain ⟨g0, g1, g2, g3, g4, g5⟩ := hw
  simp only at g0 g1 g2 g3 g4 g5 h7 hs ⊢
  have e2 : f2 % 4294967296 = f2 := by omega
  have h : f0 = 0 ∨ f0 = 1 ∨ f0 = 2 ∨ f0 = 3 ∨ f0 = 4 ∨ f0 = 5 ∨ f0 = 6 ∨ f0 = 7 := by omega
  unfold reloc_Value.f valV
  simp only [reloc_Value.j0, reloc_Value.j1, reloc_Value.j2, w64 f2 (by omega), e2]
  rcases h with rfl | rfl | rfl | rfl | rfl | rfl | rfl | rfl
  · have h1 := hs (.inl rfl)
    have h2 : ¬ (sl.length : Int) ≤ f2 := by omega
    simp [h1, h2, g4]
  · have h1 := hs (.inr (.inl rfl))
    have h2 : ¬ (sl.length : Int) ≤ f2 := by omega
    simp [h1, h2, g4]
  · simp
  · simp
  · have h1 := hs (.inr (.inr rfl))
    have h2 : ¬ (sl.length : Int) ≤ f2 := by omega
    simp [h1, h2, g4]
  · simp
  · simp
  · simp
/-- a word with an address -/
def appV (x : Int) (k : Int) (v : Int) : Int := if isCode k = true then ((encV (dec x).1 (dec x).2.1 (dec x).2.2.1 (dec x).2.2.2.1 v : Nat) : Int) else v
theorem Apply_at {l3 l4 : List Int} {r : S43} (hw : wfR r) (h7 : r.f0 ≤ 7) (x v : Int) (hx : 0 ≤ x ∧ x < 4294967296) (hg : isCode r.f0 = true → goodWord x) (hv : 0 ≤ v ∧ v ≤ 1048575)
    (hf : isCode r.f0 = true → (if r.f0 = 0 ∨ r.f0 = 7 then isZ (dec x) else decide ((dec x).1 = 2) && ((dec x).2.2.2.2.1 == 0)) = true) (k : Nat) (hk : 200 ≤ k) : reloc_Apply.f k x r.f0 v = some (appV x r.f0 v, 0) := by
  obtain ⟨k, rfl⟩ : ∃ k', k = k' + 1 := ⟨k - 1, by omega⟩
  unfold reloc_Apply.f appV
  by_cases c : isCode r.f0 = true
  · have hne : ¬ r.f0 = 4 ∧ ¬ r.f0 = 5 ∧ ¬ r.f0 = 6 := by
      unfold isCode at c
      refine ⟨fun h => ?_, fun h => ?_, fun h => ?_⟩ <;> rw [h] at c <;> cases c
    have hg := hg c
    have hf := hf c
    have hok := dec_ok hx.1 hx.2 hg.1
    rw [if_neg hne.1, if_neg hne.2.1, if_neg hne.2.2, if_neg (by omega), if_pos c]
    unfold reloc_blank.f
    rw [dec_at (by omega), Option.bind_some]
    have fin : ∀ (D : Int × Int × Int × Int × Int × Int), D = dec x → (D.1 = 17 ∨ D.1 = 2) → D.2.2.2.2.1 = 0 → reloc_Apply.j0 (k + 1) v (D.2.2.2.2.1 != 0) D.1 D.2.1 D.2.2.1 D.2.2.2.1 0 = some (((encV (dec x).1 (dec x).2.1 (dec x).2.2.1 (dec x).2.2.2.1 v : Nat) : Int), 0) := by
      intro D hD hop hi0
      rw [hi0]
      simp only [reloc_Apply.j0, show ((0 : Int) != 0) = false from rfl, Bool.false_eq_true, if_false]
      rw [w64 v (by omega), Fits_at, decide_eq_true (show -1048576 ≤ v ∧ v ≤ 1048575 by omega), Option.bind_some, if_pos rfl]
      have w32 : wrap32 v = v := by unfold wrap32; omega
      rw [w32, hD]
      rw [hD] at hop hi0
      have hc := chk_imm hok.2.2.2.2 hop hv
      rw [isaEncode_at (by omega) hok.1.1 hok.1.2 ⟨hok.2.1.1, hok.2.1.2⟩ ⟨hok.2.2.1.1, hok.2.2.1.2⟩ ⟨hok.2.2.2.1.1, hok.2.2.2.1.2⟩ (by omega), Option.bind_some, hc, if_pos rfl]
    by_cases k0 : r.f0 = 0 ∨ r.f0 = 7
    · rw [if_pos k0] at hf
      unfold isZ at hf
      simp only [Bool.and_eq_true, beq_iff_eq] at hf
      obtain ⟨z1, z2, z3, z4, z5⟩ := hf
      have hb : (!((dec x).1 == 17) || (!((dec x).2.1 == 0) || (!((dec x).2.2.1 == 0) || (!((dec x).2.2.2.1 == 0))))) = false := by rw [z1, z2, z3, z4]; rfl
      rw [hg.1, hb]
      rcases k0 with k0 | k0
      · rw [if_pos k0, if_pos rfl, if_neg (by decide), Option.bind_some]
        rw [if_pos rfl]
        exact fin (dec x) rfl (.inl z1) z5
      · rw [if_neg (by omega), if_pos rfl, if_pos k0, if_neg (by decide), Option.bind_some]
        rw [if_pos rfl]
        exact fin (dec x) rfl (.inl z1) z5
    · rw [if_neg k0] at hf
      simp only [Bool.and_eq_true, decide_eq_true_eq, beq_iff_eq] at hf
      rw [if_neg (fun h => k0 (.inl h)), hg.1, if_pos rfl, if_neg (fun h => k0 (.inr h)), if_pos hf.1, Option.bind_some]
      rw [if_pos rfl]
      exact fin (dec x) rfl (.inr hf.1) hf.2
  · rw [if_neg c]
    have : r.f0 = 4 ∨ r.f0 = 5 ∨ r.f0 = 6 := by
      unfold isCode at c
      by_cases h4 : r.f0 = 4
      · exact .inl h4
      · by_cases h5 : r.f0 = 5
        · exact .inr (.inl h5)
        · by_cases h6 : r.f0 = 6
          · exact .inr (.inr h6)
          · simp [h4, h5, h6] at c
    rcases this with h | h | h
    · rw [if_pos h]
    · rw [if_neg (by omega), if_pos h]
    · rw [if_neg (by omega), if_neg (by omega), if_pos h]
/-- a word as it is linked -/
def linkV (l3 l4 : List Int) (l5 : List S43) (p0 p1 : Int) (sl : List Int) (i : Nat) : Int :=
  match relAt l3 l4 l5 i with
  | none => rawV l3 l4 i
  | some j => appV (rawV l3 l4 i) (l5.getD j z43).f0 (valV (l5.getD j z43) p0 p1 sl)
/-- addresses that may be -/
structure PlaceOk (l2 : List ByteArray) (p0 p1 : Int) (sl : List Int) : Prop where
  p0 : 0 ≤ p0 ∧ p0 ≤ 100000
  p1 : 0 ≤ p1 ∧ p1 ≤ 100000
  n : l2.length ≤ sl.length
  s : ∀ x ∈ sl, 0 ≤ x ∧ x ≤ 65535
theorem valV_range {l2 : List ByteArray} {r : S43} {p0 p1 : Int} {sl : List Int} (hp : PlaceOk l2 p0 p1 sl) (hw : wfR r) (ht : r.f0 = 0 ∨ r.f0 = 1 ∨ r.f0 = 4 → r.f2 < (l2.length : Int)) : 0 ≤ valV r p0 p1 sl ∧ valV r p0 p1 sl ≤ 1048575 := by
  have h0 := hp.p0
  have h1 := hp.p1
  have h2 := hp.n
  unfold valV
  split
  · rename_i c
    have ht := ht c
    obtain ⟨q, hq⟩ := Int.eq_ofNat_of_zero_le hw.2.2.2.2.1
    rw [hq, rd_nat]
    have := hp.s _ (getD_mem 0 (show q < sl.length by omega))
    omega
  · have := hw.2.2.2.2
    split <;> omega
theorem Word_at {a0 : ByteArray} {l1 l2 : List ByteArray} {l3 l4 : List Int} {l5 : List S43} (hw : ∀ r ∈ l5, wfR r) (hx3 : ∀ x ∈ l3, 0 ≤ x ∧ x < 4294967296) (hx4 : ∀ x ∈ l4, 0 ≤ x ∧ x < 4294967296) (h : ModOk a0 l1 l2 l3 l4 l5) {p0 p1 : Int} {sl : List Int} (hp : PlaceOk l2 p0 p1 sl) (i : Nat) (hi : i ≤ 100000) (k : Nat) (hk : 300 ≤ k) :
    link_Word.f k a0 l1 l2 l3 l4 l5 p0 p1 sl (i : Int) = some (linkV l3 l4 l5 p0 p1 sl i, 0) := by
  obtain ⟨k, rfl⟩ : ∃ k', k = k' + 1 := ⟨k - 1, by omega⟩
  obtain ⟨o1, o2, o3, o4, o5, o6, o7, o8, o9⟩ := h.obj
  unfold link_Word.f linkV relAt
  rw [Raw_at a0 l1 l2 l3 l4 l5 (by omega) (by omega) i hi, Spot_at a0 l1 l2 l3 l4 l5 (by omega) (by omega) i hi, Option.bind_some, Option.bind_some, idxF_law _ (fun r => wordIs (spotV l3 l4 i).2.1 (spotV l3 l4 i).1 r) l5 (fun _ _ => rfl) l5.length 0 (by omega), Option.bind_some]
  have jT : ∀ n, link_Word.j0 (k + 1) sl (rawV l3 l4 i) n true a0 l1 l2 l3 l4 l5 p0 p1 = some (rawV l3 l4 i, 0) := fun n => by simp [link_Word.j0]
  by_cases c : (spotV l3 l4 i).2.2 = true
  case neg => rw [if_neg c, if_neg c, jT]
  rw [if_pos c, if_pos c]
  obtain ⟨q, hq, hlt⟩ := spotV_ok c
  cases hf : first (fun j => wordIs (spotV l3 l4 i).2.1 (spotV l3 l4 i).1 (l5.getD j z43)) l5.length 0 with
  | none =>
    rw [show decide (optI none < 0) = true from rfl, jT]
  | some j =>
    obtain ⟨_, hj, hj2, _⟩ := first_some hf
    have hj : j < l5.length := by omega
    have hm := getD_mem z43 hj
    have hwr := hw _ hm
    have h7 := o9 _ hm
    have hsp := (wordIs_spot hwr h7 _ _).1 hj2
    have hff := h.f _ hm
    have htt := h.t _ hm
    have hqq := h.q _ hm
    unfold spot at hsp
    injection hsp with hs1 hs2
    have ht : (l5.getD j z43).f0 = 0 ∨ (l5.getD j z43).f0 = 1 ∨ (l5.getD j z43).f0 = 4 → (l5.getD j z43).f2 < (l2.length : Int) := by
      intro hk
      unfold there at htt
      rw [if_pos hk] at htt
      exact of_decide_eq_true htt
    have hv := valV_range hp hwr ht
    rw [show decide (optI (some j) < 0) = false from decide_eq_false (show ¬ (j : Int) < 0 by omega)]
    simp only [link_Word.j0, Bool.false_eq_true, if_false]
    rw [show optI (some j) = (j : Int) from rfl, if_pos (by omega), if_pos (by omega), rdT_nat, Value_at hwr h7 p0 p1 sl k (by omega) (fun hk => by have := ht hk; have := hp.n; omega), Option.bind_some, if_pos rfl]
    have hraw : rawV l3 l4 i = if (spotV l3 l4 i).1 = true then rd l3 (l5.getD j z43).f1 else rd l4 (l5.getD j z43).f1 := by
      unfold rawV
      rw [if_pos c, hs2]
    have hr : 0 ≤ rawV l3 l4 i ∧ rawV l3 l4 i < 4294967296 := by
      unfold rawV
      rw [if_pos c, hq, rd_nat, rd_nat]
      by_cases c2 : (spotV l3 l4 i).1 = true
      · rw [if_pos c2] at hlt ⊢; exact hx3 _ (getD_mem 0 hlt)
      · rw [if_neg c2] at hlt ⊢; exact hx4 _ (getD_mem 0 hlt)
    rw [Apply_at (l3 := l3) (l4 := l4) hwr h7 _ _ hr (fun hc => ?_) hv (fun hc => ?_) k (by omega), Option.bind_some]
    · rw [hs1] at hc
      rw [hraw, if_pos hc, hs2, hq, rd_nat]
      rw [if_pos hc] at hlt
      exact h.w _ (getD_mem 0 hlt)
    · unfold fits at hff
      rw [if_pos hc] at hff
      rw [hs1] at hc
      rw [hraw, if_pos hc]
      exact hff
/-- all words -/
def imageV (l3 l4 : List Int) (l5 : List S43) (p0 p1 : Int) (sl : List Int) (n : Nat) : List Int := (List.range n).map (linkV l3 l4 l5 p0 p1 sl)
theorem image_l {a0 : ByteArray} {l1 l2 : List ByteArray} {l3 l4 : List Int} {l5 : List S43} (hw : ∀ r ∈ l5, wfR r) (hx3 : ∀ x ∈ l3, 0 ≤ x ∧ x < 4294967296) (hx4 : ∀ x ∈ l4, 0 ≤ x ∧ x < 4294967296) (h : ModOk a0 l1 l2 l3 l4 l5) {p0 p1 : Int} {sl : List Int} (hp : PlaceOk l2 p0 p1 sl) (n : Nat) (hn : n ≤ 20000) : ∀ (d i k : Nat), i + d = n → d + 400 ≤ k → link_Image.l0 k sl (imageV l3 l4 l5 p0 p1 sl i) (n : Int) (i : Int) a0 l1 l2 l3 l4 l5 p0 p1 = some (imageV l3 l4 l5 p0 p1 sl n, 0) := by
  intro d
  induction d with
  | zero =>
    intro i k h1 h2
    obtain ⟨k, rfl⟩ : ∃ k', k = k' + 1 := ⟨k - 1, by omega⟩
    have : i = n := by omega
    subst this
    simp only [link_Image.l0]
    rw [if_neg (by omega)]
  | succ d ih =>
    intro i k h1 h2
    obtain ⟨k, rfl⟩ : ∃ k', k = k' + 1 := ⟨k - 1, by omega⟩
    have hl : (imageV l3 l4 l5 p0 p1 sl i).length = i := by unfold imageV; simp
    have e : imageV l3 l4 l5 p0 p1 sl i ++ [linkV l3 l4 l5 p0 p1 sl i] = imageV l3 l4 l5 p0 p1 sl (i + 1) := by
      unfold imageV
      rw [List.range_succ, List.map_append]
      rfl
    simp only [link_Image.l0]
    rw [if_pos (by omega), Word_at hw hx3 hx4 h hp i (by omega) k (by omega), Option.bind_some, if_pos rfl, if_pos (by omega), w64 _ (by omega), e]
    exact ih (i + 1) k (by omega) (by omega)
def wordsN (l3 l4 : List Int) : Nat := 16 * (pages l3.length + pages l4.length)
theorem Of_at (a0 : ByteArray) (l1 l2 : List ByteArray) (l3 l4 : List Int) (l5 : List S43) (h3 : l3.length ≤ 4000) (h4 : l4.length ≤ 4000) : layout_Of.f a0 l1 l2 l3 l4 l5 = some (((pages l3.length : Nat) : Int), ((pages l4.length : Nat) : Int)) := by
  unfold layout_Of.f
  rw [up_nat _ h3, up_nat _ h4]
  rfl
theorem may_at {n : Nat} (h : n ≤ 256) : layout_may.f (n : Int) = some true := by
  unfold layout_may.f
  rw [if_pos (by omega), decide_eq_true (by omega)]
theorem Pages_at {a b : Nat} (ha : a ≤ 256) (hb : b ≤ 256) (h : 0 < a) : layout_Pages.f (a : Int) (b : Int) = some ((a + b : Nat) : Int) := by
  unfold layout_Pages.f
  have e : ((a : Int) == 0) = false := beq_eq_false_iff_ne.2 (by omega)
  rw [e, may_at ha, may_at hb, Bool.false_and, if_neg (by decide), Option.bind_some, if_pos rfl, Option.bind_some, if_pos rfl, w64 _ (by omega)]
  exact congrArg some (by omega)
theorem pages_le {n : Nat} (h : n ≤ 512) : pages n ≤ 32 := by unfold pages; omega
theorem Words_at {l3 l4 : List Int} (h3 : l3.length ≤ 512) (h4 : l4.length ≤ 128) (h0 : l3.length ≠ 0) : layout_Words.f ((pages l3.length : Nat) : Int) ((pages l4.length : Nat) : Int) = some ((wordsN l3 l4 : Nat) : Int) := by
  have e1 := pages_le h3
  have e2 := pages_le (show l4.length ≤ 512 by omega)
  have e3 : 0 < pages l3.length := by unfold pages; omega
  unfold layout_Words.f wordsN
  rw [Pages_at (by omega) (by omega) e3, Option.bind_some, w64 _ (by omega)]
  exact congrArg some (by omega)
theorem Image_at {a0 : ByteArray} {l1 l2 : List ByteArray} {l3 l4 : List Int} {l5 : List S43} (hw : ∀ r ∈ l5, wfR r) (hx3 : ∀ x ∈ l3, 0 ≤ x ∧ x < 4294967296) (hx4 : ∀ x ∈ l4, 0 ≤ x ∧ x < 4294967296) (h : ModOk a0 l1 l2 l3 l4 l5) {p0 p1 : Int} {sl : List Int} (hp : PlaceOk l2 p0 p1 sl) (k : Nat) (hk : 20000 ≤ k) :
    link_Image.f k a0 l1 l2 l3 l4 l5 p0 p1 sl = some (imageV l3 l4 l5 p0 p1 sl (wordsN l3 l4), 0) := by
  obtain ⟨k, rfl⟩ : ∃ k', k = k' + 1 := ⟨k - 1, by omega⟩
  obtain ⟨o1, o2, o3, o4, o5, o6, o7, o8, o9⟩ := h.obj
  have e1 := pages_le o4
  have e2 := pages_le (show l4.length ≤ 512 by omega)
  have hn : wordsN l3 l4 ≤ 20000 := by unfold wordsN; omega
  unfold link_Image.f
  rw [if_neg (by omega), if_neg (by omega), decide_eq_false (by omega)]
  simp only [link_Image.j0, Bool.false_eq_true, if_false]
  rw [Of_at a0 l1 l2 l3 l4 l5 (by omega) (by omega), Option.bind_some, Words_at o4 o5 h.w0.1, Option.bind_some]
  exact image_l hw hx3 hx4 h hp (wordsN l3 l4) hn (wordsN l3 l4) 0 k (by omega) (by unfold wordsN at hn ⊢; omega)
/-- where a plan's words begin -/
theorem At_at {l3 l4 : List Int} (h3 : l3.length ≤ 512) (h4 : l4.length ≤ 128) (h0 : l3.length ≠ 0) (x : Nat) (hx : x ≤ 255) (k : Nat) (hk : 1 ≤ k) :
    ∃ e, layout_At.f k ((pages l3.length : Nat) : Int) ((pages l4.length : Nat) : Int) (x : Int) = some (if e = 0 then ((80 + 16 * x : Nat) : Int) else 0, if e = 0 then ((80 + 16 * (x + pages l3.length) : Nat) : Int) else 0, e) := by
  obtain ⟨k, rfl⟩ : ∃ k', k = k' + 1 := ⟨k - 1, by omega⟩
  have e1 := pages_le h3
  have e2 := pages_le (show l4.length ≤ 512 by omega)
  have e3 : 0 < pages l3.length := by unfold pages; omega
  generalize pages l3.length = a at e1 e3 ⊢
  generalize pages l4.length = b at e2 ⊢
  unfold layout_At.f
  rw [Pages_at (by omega) (by omega) e3, Option.bind_some, if_neg (by omega), may_at (by omega), Option.bind_some, if_pos rfl, w64 _ (by omega)]
  by_cases c : (x : Int) > 256 - ((a + b : Nat) : Int)
  · rw [decide_eq_true c]
    exact ⟨11, by simp [layout_At.j0]⟩
  · rw [decide_eq_false c]
    refine ⟨0, ?_⟩
    simp only [layout_At.j0, Bool.false_eq_true, if_false, layout_address.f, if_true, Option.bind_some]
    rw [w64 ((x : Int) * 16) (by omega), w64 (80 + (x : Int) * 16) (by omega), w64 ((x : Int) + (a : Int)) (by omega), w64 (((x : Int) + (a : Int)) * 16) (by omega), w64 (80 + ((x : Int) + (a : Int)) * 16) (by omega)]
    refine congrArg some (Prod.ext ?_ (Prod.ext ?_ rfl))
    · simp only; omega
    · simp only; omega
end Go.Proofs.YtiphindialkmnaaDoor.X
end
section
namespace Go.Proofs.YtiphindialkmnaaDoor.X
open Go.RowKit Go.Proofs.YtiphindialkmnaaDoorW.PrintWords Go.Proofs.YtiphindialkmnaaDoorW.PrintLast Go.Proofs.YtiphindialkmnaaDoorW.PrintMore
attribute [local go_sem] max2_int min2_int max_two min_two max_three min_three max_four min_four
set_option linter.unusedVariables false
set_option linter.unusedSimpArgs false

/-! ### budwoodlaw16_awake: function 22 -/
def budwoodlaw16_awake.f (k : Nat)  : Option (Bool) := (some (([2281701376, 2415919104] : List Int) : List Int)).bind fun y101 => ((link_Image.f k (⟨#[]⟩ : ByteArray) ([] : List ByteArray) (([(⟨#[102]⟩ : ByteArray)] : List ByteArray)) y101 ([] : List Int) (([(⟨0, 0, 0⟩ : S43)] : List (S43))) 80 96 (([17] : List Int))).bind fun bt114 => (if bt114.2 = 0 then (if (bt114.1.length : Int) = 16 then (if 0 < (bt114.1.length : Int) then (if (rd bt114.1 0) = 2281701393 then (if 1 < (bt114.1.length : Int) then (if 1 < (y101.length : Int) then (if (rd bt114.1 1) = (rd y101 1) then (if 2 < (bt114.1.length : Int) then (if (rd bt114.1 2) = 0 then (some true) else (some false)) else (none)) else (some false)) else (none)) else (none)) else (some false)) else (none)) else (some false)) else (some false)))
theorem budwoodlaw16_awake.mono : ∀ k, LeO (budwoodlaw16_awake.f k ) (budwoodlaw16_awake.f (k + 1) ) := by
 intro  k
 unfold budwoodlaw16_awake.f
 repeat' first
   | (with_reducible exact link_Image.mono _ _ _ _ _ _ _ _ _ _)
   | (with_reducible exact LeO.refl _)
   | (with_reducible exact LeO.none _)
   | (with_reducible refine LeO.ite ?_ ?_)
   | (with_reducible refine LeO.bind ?_ (fun _ => ?_))
set_option maxHeartbeats 8000000 in
set_option maxRecDepth 100000 in
theorem budwoodlaw16_awake.calls1 (k : Nat) (r : Bool) (hr : r = true) (w : World) (h : budwoodlaw16_awake.f k  = some r) :
  Calls Tryd.prog 22 #[] w fun e w' => e = .returned (.bool r) ∧ Below w.heap.size w w' := by
 have hu43 := Tryd.underlying43
 have hu26 := Tryd.underlying26
 have hu73 := Tryd.underlying73
 have HB := Aside0.mk (Below.refl w.heap.size w)
 have H : ((some (([2281701376, 2415919104] : List Int) : List Int)).bind fun y101 => ((link_Image.f k (⟨#[]⟩ : ByteArray) ([] : List ByteArray) (([(⟨#[102]⟩ : ByteArray)] : List ByteArray)) y101 ([] : List Int) (([(⟨0, 0, 0⟩ : S43)] : List (S43))) 80 96 (([17] : List Int))).bind fun bt114 => (if bt114.2 = 0 then (if (bt114.1.length : Int) = 16 then (if 0 < (bt114.1.length : Int) then (if (rd bt114.1 0) = 2281701393 then (if 1 < (bt114.1.length : Int) then (if 1 < (y101.length : Int) then (if (rd bt114.1 1) = (rd y101 1) then (if 2 < (bt114.1.length : Int) then (if (rd bt114.1 2) = 0 then (some true) else (some false)) else (none)) else (some false)) else (none)) else (none)) else (some false)) else (none)) else (some false)) else (some false)))) = some r := h
 clear h
 obtain ⟨y101, hy101⟩ : ∃ y_ : List Int, y_ = (([2281701376, 2415919104] : List Int)) := ⟨_, rfl⟩
 replace H : ((link_Image.f k (⟨#[]⟩ : ByteArray) ([] : List ByteArray) (([(⟨#[102]⟩ : ByteArray)] : List ByteArray)) y101 ([] : List Int) (([(⟨0, 0, 0⟩ : S43)] : List (S43))) 80 96 (([17] : List Int))).bind fun bt114 => (if bt114.2 = 0 then (if (bt114.1.length : Int) = 16 then (if 0 < (bt114.1.length : Int) then (if (rd bt114.1 0) = 2281701393 then (if 1 < (bt114.1.length : Int) then (if 1 < (y101.length : Int) then (if (rd bt114.1 1) = (rd y101 1) then (if 2 < (bt114.1.length : Int) then (if (rd bt114.1 2) = 0 then (some true) else (some false)) else (none)) else (some false)) else (none)) else (none)) else (some false)) else (none)) else (some false)) else (some false))) = some r := by first | (rw [hy101]; with_reducible exact H) | (have H2_ := (Option.bind_some _ _).symm.trans H; rw [hy101]; with_reducible exact H2_) | (have H2_ := (Option.bind_some _ _).symm.trans H; with_reducible exact H2_) | with_reducible exact H | (rw [hy101]; exact H) | exact H
 have Ny101 := Aside0.mk hy101
 clear hy101
 obtain ⟨y104, hy104⟩ : ∃ y_ : List ByteArray, y_ = (([(⟨#[102]⟩ : ByteArray)] : List ByteArray)) := ⟨_, rfl⟩
 replace H : ((link_Image.f k (⟨#[]⟩ : ByteArray) ([] : List ByteArray) y104 y101 ([] : List Int) (([(⟨0, 0, 0⟩ : S43)] : List (S43))) 80 96 (([17] : List Int))).bind fun bt114 => (if bt114.2 = 0 then (if (bt114.1.length : Int) = 16 then (if 0 < (bt114.1.length : Int) then (if (rd bt114.1 0) = 2281701393 then (if 1 < (bt114.1.length : Int) then (if 1 < (y101.length : Int) then (if (rd bt114.1 1) = (rd y101 1) then (if 2 < (bt114.1.length : Int) then (if (rd bt114.1 2) = 0 then (some true) else (some false)) else (none)) else (some false)) else (none)) else (none)) else (some false)) else (none)) else (some false)) else (some false))) = some r := by first | (rw [hy104]; with_reducible exact H) | (have H2_ := (Option.bind_some _ _).symm.trans H; rw [hy104]; with_reducible exact H2_) | (have H2_ := (Option.bind_some _ _).symm.trans H; with_reducible exact H2_) | with_reducible exact H | (rw [hy104]; exact H) | exact H
 have Ny104 := Aside0.mk hy104
 clear hy104
 obtain ⟨y107, hy107⟩ : ∃ y_ : List (S43), y_ = (([(⟨0, 0, 0⟩ : S43)] : List (S43))) := ⟨_, rfl⟩
 replace H : ((link_Image.f k (⟨#[]⟩ : ByteArray) ([] : List ByteArray) y104 y101 ([] : List Int) y107 80 96 (([17] : List Int))).bind fun bt114 => (if bt114.2 = 0 then (if (bt114.1.length : Int) = 16 then (if 0 < (bt114.1.length : Int) then (if (rd bt114.1 0) = 2281701393 then (if 1 < (bt114.1.length : Int) then (if 1 < (y101.length : Int) then (if (rd bt114.1 1) = (rd y101 1) then (if 2 < (bt114.1.length : Int) then (if (rd bt114.1 2) = 0 then (some true) else (some false)) else (none)) else (some false)) else (none)) else (none)) else (some false)) else (none)) else (some false)) else (some false))) = some r := by first | (rw [hy107]; with_reducible exact H) | (have H2_ := (Option.bind_some _ _).symm.trans H; rw [hy107]; with_reducible exact H2_) | (have H2_ := (Option.bind_some _ _).symm.trans H; with_reducible exact H2_) | with_reducible exact H | (rw [hy107]; exact H) | exact H
 have Ny107 := Aside0.mk hy107
 clear hy107
 obtain ⟨y111, hy111⟩ : ∃ y_ : List Int, y_ = (([17] : List Int)) := ⟨_, rfl⟩
 replace H : ((link_Image.f k (⟨#[]⟩ : ByteArray) ([] : List ByteArray) y104 y101 ([] : List Int) y107 80 96 y111).bind fun bt114 => (if bt114.2 = 0 then (if (bt114.1.length : Int) = 16 then (if 0 < (bt114.1.length : Int) then (if (rd bt114.1 0) = 2281701393 then (if 1 < (bt114.1.length : Int) then (if 1 < (y101.length : Int) then (if (rd bt114.1 1) = (rd y101 1) then (if 2 < (bt114.1.length : Int) then (if (rd bt114.1 2) = 0 then (some true) else (some false)) else (none)) else (some false)) else (none)) else (none)) else (some false)) else (none)) else (some false)) else (some false))) = some r := by first | (rw [hy111]; with_reducible exact H) | (have H2_ := (Option.bind_some _ _).symm.trans H; rw [hy111]; with_reducible exact H2_) | (have H2_ := (Option.bind_some _ _).symm.trans H; with_reducible exact H2_) | with_reducible exact H | (rw [hy111]; exact H) | exact H
 have Ny111 := Aside0.mk hy111
 clear hy111
 replace H := Option.bind_eq_some_iff.mp H
 obtain ⟨⟨t114, t117⟩, A10, H⟩ := H
 replace H : (if t117 = 0 then (if (t114.length : Int) = 16 then (if 0 < (t114.length : Int) then (if (rd t114 0) = 2281701393 then (if 1 < (t114.length : Int) then (if 1 < (y101.length : Int) then (if (rd t114 1) = (rd y101 1) then (if 2 < (t114.length : Int) then (if (rd t114 2) = 0 then (some true) else (some false)) else (none)) else (some false)) else (none)) else (none)) else (some false)) else (none)) else (some false)) else (some false)) = some r := H
 have A1 := Aside0.mk A10
 clear A10
 by_cases c2 : t117 = 0
 ·rw [if_pos c2] at H
  have c2b0 : (t117 == 0) = true := beq_iff_eq.mpr c2
  have c2b1 : (t117 != 0) = false := bne_eq_false_iff_eq.mpr c2
  clear c2
  by_cases c3 : (t114.length : Int) = 16
  ·rw [if_pos c3] at H
   have c3b0 : ((t114.length : Int) == 16) = true := beq_iff_eq.mpr c3
   have c3b1 : ((t114.length : Int) != 16) = false := bne_eq_false_iff_eq.mpr c3
   clear c3
   by_cases c4 : 0 < (t114.length : Int)
   ·rw [if_pos c4] at H
    have c4b0 : decide (0 < (t114.length : Int)) = true := decide_eq_true c4
    have c4b1 : decide (0 < t114.length) = true := decide_eq_true (by omega)
    clear c4
    by_cases c5 : (rd t114 0) = 2281701393
    ·rw [if_pos c5] at H
     have c5b0 : ((rd t114 0) == 2281701393) = true := beq_iff_eq.mpr c5
     have c5b1 : ((rd t114 0) != 2281701393) = false := bne_eq_false_iff_eq.mpr c5
     clear c5
     by_cases c6 : 1 < (t114.length : Int)
     ·rw [if_pos c6] at H
      have c6b0 : decide (1 < (t114.length : Int)) = true := decide_eq_true c6
      have c6b1 : decide (1 < t114.length) = true := decide_eq_true (by omega)
      clear c6
      by_cases c7 : 1 < (y101.length : Int)
      ·rw [if_pos c7] at H
       have c7b0 : decide (1 < (y101.length : Int)) = true := decide_eq_true c7
       have c7b1 : decide (1 < y101.length) = true := decide_eq_true (by omega)
       clear c7
       by_cases c8 : (rd t114 1) = (rd y101 1)
       ·rw [if_pos c8] at H
        have c8b0 : ((rd t114 1) == (rd y101 1)) = true := beq_iff_eq.mpr c8
        have c8b1 : ((rd t114 1) != (rd y101 1)) = false := bne_eq_false_iff_eq.mpr c8
        clear c8
        by_cases c9 : 2 < (t114.length : Int)
        ·rw [if_pos c9] at H
         have c9b0 : decide (2 < (t114.length : Int)) = true := decide_eq_true c9
         have c9b1 : decide (2 < t114.length) = true := decide_eq_true (by omega)
         clear c9
         by_cases c10 : (rd t114 2) = 0
         ·rw [if_pos c10] at H
          have c10b0 : ((rd t114 2) == 0) = true := beq_iff_eq.mpr c10
          have c10b1 : ((rd t114 2) != 0) = false := bne_eq_false_iff_eq.mpr c10
          clear c10
          obtain rfl := Option.some.inj H
          go_enter Tryd.func22, Tryd.ntmps22
          go_wp2_with (first | ((with_reducible refine gate_dst (N := 4) rfl ?_); (try (refine gate_guard (by rfl) ?_; dsimp only)); refine Kd.R_lit (Kd.int .u32) _ 44 ?hg (N := 4) ?hd (xs := ([2281701376, 2415919104] : List Int)) (inner := [.int .u32 2281701376, .int .u32 2415919104]) (ok := fun _ => True) (okp := fun _ => True) ?hr ?hp (fun _ hk => hk) trivial (Below.refl _ _) (Nat.le_refl _) (by simp) ?_; (case hd => rfl); (case hg => rfl); (case hr => first | (go_simp; done) | (go_simp; rfl)); (case hp => exact (Reps.one (show Kd.M (Kd.int .u32) _ _ _ 2281701376 [.int .u32 2281701376] from rfl) (Reps.one (show Kd.M (Kd.int .u32) _ _ _ 2415919104 [.int .u32 2415919104] from rfl) (Reps.none _ _)))); intro v102 w11 ho12 hb hg_ hnew_; clear hg_ hnew_; (first | rw [← Ny101.out] at ho12 | (simp only [Int.reduceToNat] at ho12; rw [← Ny101.out] at ho12)); have HO103 := Aside0.mk (Kd.R_lower ho12 (below_size (tg HB.out))); replace HB := Aside0.mk (below_step (tg HB.out) hb); clear hb ho12) | ((with_reducible refine gate_dst (N := 5) rfl ?_); (try (refine gate_guard (by rfl) ?_; dsimp only)); refine Kd.R_lit Kd.string _ 9 ?hg (N := 5) ?hd (xs := ([(⟨#[102]⟩ : ByteArray)] : List ByteArray)) (inner := [.string (⟨#[102]⟩ : ByteArray)]) (ok := fun _ => True) (okp := fun _ => True) ?hr ?hp (fun _ hk => hk) trivial (Below.refl _ _) (Nat.le_refl _) (by simp) ?_; (case hd => rfl); (case hg => rfl); (case hr => first | (go_simp; done) | (go_simp; rfl)); (case hp => exact (Reps.one (show Kd.M Kd.string _ _ _ (⟨#[102]⟩ : ByteArray) [.string (⟨#[102]⟩ : ByteArray)] from rfl) (Reps.none _ _))); intro v105 w13 ho14 hb hg_ hnew_; clear hg_ hnew_; (first | rw [← Ny104.out] at ho14 | (simp only [Int.reduceToNat] at ho14; rw [← Ny104.out] at ho14)); replace HO103 := ra HO103.out hb; have HO106 := Aside0.mk (Kd.R_lower ho14 (below_size (tg HB.out))); replace HB := Aside0.mk (below_step (tg HB.out) hb); clear hb ho14) | ((with_reducible refine gate_dst (N := 7) rfl ?_); (try (refine gate_guard (by rfl) ?_; dsimp only)); refine Kd.R_lit k43 _ 43 ?hg (N := 7) ?hd (xs := ([(⟨0, 0, 0⟩ : S43)] : List (S43))) (inner := [.int .u8 0, .int .u16 0, .int .u16 0]) (ok := fun _ => True) (okp := fun _ => True) ?hr ?hp (fun _ hk => hk) trivial (Below.refl _ _) (Nat.le_refl _) (by simp) ?_; (case hd => rfl); (case hg => rfl); (case hr => first | (go_simp; done) | (go_simp; rfl)); (case hp => exact (Reps.c3 (show Kd.M k43 _ _ _ (⟨0, 0, 0⟩ : S43) [.int .u8 0, .int .u16 0, .int .u16 0] from (k43_mkM _ _ _ (⟨0, 0, 0⟩ : S43) )) (Reps.none _ _))); intro v108 w15 ho16 hb hg_ hnew_; clear hg_ hnew_; (first | rw [← Ny107.out] at ho16 | (simp only [Int.reduceToNat] at ho16; rw [← Ny107.out] at ho16)); replace HO103 := ra HO103.out hb; replace HO106 := ra HO106.out hb; have HO109 := Aside0.mk (Kd.R_lower ho16 (below_size (tg HB.out))); replace HB := Aside0.mk (below_step (tg HB.out) hb); clear hb ho16; obtain ⟨Ao17, co17, eo17⟩ := Kd.R_slice HO109.out; subst eo17; obtain ⟨Ao18, co18, eo18⟩ := Kd.R_slice HO103.out; subst eo18; obtain ⟨Ao19, co19, eo19⟩ := Kd.R_slice HO106.out; subst eo19) | ((with_reducible refine gate_dst (N := 1) rfl ?_); (try (refine gate_guard (by rfl) ?_; dsimp only)); refine box_event ?hg (N := 1) ?hd (cs := #[.string (⟨#[]⟩ : ByteArray), .slice none 0 0, .slice none 0 0, .slice none 0 0, .slice none 0 0, .slice none 0 0]) (t := 26) ?hr ?_; (case hd => rfl); (case hg => rfl); (case hr => first | (go_simp; done) | (go_simp; rfl)); intro gb110 hg w20 hbox hb; have n0_ := ra HO103.out hb; have n1_ := ra HO106.out hb; have n2_ := ra HO109.out hb; have n3_ := Aside0.mk (below_step (tg HB.out) hb); have n4_ := Aside0.mk (hbox); have n5_ := Aside0.mk ((by rw [hg]; exact (below_size (tg HB.out)) : w.heap.size ≤ gb110)); have n6_ := Aside0.mk ((by rw [hg]; exact (below_size (tg HB.out)) : w.heap.size ≤ gb110)); clear HO103; clear HO106; clear HO109; clear HB; have HO103 := n0_; have HO106 := n1_; have HO109 := n2_; have HB := n3_; have BK110 := n4_; have GW110 := n5_; have GE110 := n6_; clear n0_ n1_ n2_ n3_ n4_ n5_ n6_; clear hb hbox hg; obtain ⟨hcz21_0, hcz21_1, hcz21_2, hcz21_3, hcz21_4, hcz21_5, hfz21_0, hfz21_1, hfz21_2, hfz21_3, hfz21_4, hfz21_5⟩ := cq6 BK110.out) | ((with_reducible refine gate_dst (N := 12) rfl ?_); (try (refine gate_guard (by rfl) ?_; dsimp only)); refine Kd.R_lit (Kd.int .u32) _ 44 ?hg (N := 12) ?hd (xs := ([17] : List Int)) (inner := [.int .u32 17]) (ok := fun _ => True) (okp := fun _ => True) ?hr ?hp (fun _ hk => hk) trivial (Below.refl _ _) (Nat.le_refl _) (by simp) ?_; (case hd => rfl); (case hg => rfl); (case hr => first | (go_simp; done) | (go_simp; rfl)); (case hp => exact (Reps.one (show Kd.M (Kd.int .u32) _ _ _ 17 [.int .u32 17] from rfl) (Reps.none _ _))); intro v112 w22 ho23 hb hg_ hnew_; clear hg_ hnew_; (first | rw [← Ny111.out] at ho23 | (simp only [Int.reduceToNat] at ho23; rw [← Ny111.out] at ho23)); have n0_ := Aside0.mk (Kd.R_elder' (by (with_reducible repeat (first | apply Kd.R_alloc | apply Kd.R_drewN | apply Kd.R_drew)); exact (Kd.R_mono (Kd.R_far (p := ⟨gb110, 5, none⟩) (Kd.R_far (p := ⟨gb110, 4, none⟩) (Kd.R_far (p := ⟨gb110, 3, none⟩) (Kd.R_far (p := ⟨gb110, 2, none⟩) (Kd.R_far (p := ⟨gb110, 1, none⟩) (Kd.R_far (p := ⟨gb110, 0, none⟩) (Kd.R_types HO103.out BK110.out (by decide)) (fun _ hk => hk.2) (.string (⟨#[]⟩ : ByteArray))) (fun _ hk => hk.2) (.slice none 0 0)) (fun _ hk => hk.2) (.slice Ao19 y104.length co19)) (fun _ hk => hk.2) (.slice Ao18 y101.length co18)) (fun _ hk => hk.2) (.slice none 0 0)) (fun _ hk => hk.2) (.slice Ao17 y107.length co17)) (fun _ h_ => h_.1))) (Kd.R_base ho23) hb); have n1_ := Aside0.mk (Kd.R_below (by (with_reducible repeat (first | apply Kd.R_alloc | apply Kd.R_drewN | apply Kd.R_drew)); exact (Kd.R_mono (Kd.R_far (p := ⟨gb110, 5, none⟩) (Kd.R_far (p := ⟨gb110, 4, none⟩) (Kd.R_far (p := ⟨gb110, 3, none⟩) (Kd.R_far (p := ⟨gb110, 2, none⟩) (Kd.R_far (p := ⟨gb110, 1, none⟩) (Kd.R_far (p := ⟨gb110, 0, none⟩) (Kd.R_types HO106.out BK110.out (by decide)) (fun _ hk => hk.2) (.string (⟨#[]⟩ : ByteArray))) (fun _ hk => hk.2) (.slice none 0 0)) (fun _ hk => hk.2) (.slice Ao19 y104.length co19)) (fun _ hk => hk.2) (.slice Ao18 y101.length co18)) (fun _ hk => hk.2) (.slice none 0 0)) (fun _ hk => hk.2) (.slice Ao17 y107.length co17)) (fun _ h_ => h_.1))) hb); have n2_ := Aside0.mk (Kd.R_below (by (with_reducible repeat (first | apply Kd.R_alloc | apply Kd.R_drewN | apply Kd.R_drew)); exact (Kd.R_mono (Kd.R_far (p := ⟨gb110, 5, none⟩) (Kd.R_far (p := ⟨gb110, 4, none⟩) (Kd.R_far (p := ⟨gb110, 3, none⟩) (Kd.R_far (p := ⟨gb110, 2, none⟩) (Kd.R_far (p := ⟨gb110, 1, none⟩) (Kd.R_far (p := ⟨gb110, 0, none⟩) (Kd.R_types HO109.out BK110.out (by decide)) (fun _ hk => hk.2) (.string (⟨#[]⟩ : ByteArray))) (fun _ hk => hk.2) (.slice none 0 0)) (fun _ hk => hk.2) (.slice Ao19 y104.length co19)) (fun _ hk => hk.2) (.slice Ao18 y101.length co18)) (fun _ hk => hk.2) (.slice none 0 0)) (fun _ hk => hk.2) (.slice Ao17 y107.length co17)) (fun _ h_ => h_.1))) hb); have n3_ := Aside0.mk (Kd.R_lower (Kd.R_new' ho23 (Kd.R_lt (by (with_reducible repeat (first | apply Kd.R_alloc | apply Kd.R_drewN | apply Kd.R_drew)); exact (Kd.R_mono (Kd.R_far (p := ⟨gb110, 5, none⟩) (Kd.R_far (p := ⟨gb110, 4, none⟩) (Kd.R_far (p := ⟨gb110, 3, none⟩) (Kd.R_far (p := ⟨gb110, 2, none⟩) (Kd.R_far (p := ⟨gb110, 1, none⟩) (Kd.R_far (p := ⟨gb110, 0, none⟩) (Kd.R_types HO103.out BK110.out (by decide)) (fun _ hk => hk.2) (.string (⟨#[]⟩ : ByteArray))) (fun _ hk => hk.2) (.slice none 0 0)) (fun _ hk => hk.2) (.slice Ao19 y104.length co19)) (fun _ hk => hk.2) (.slice Ao18 y101.length co18)) (fun _ hk => hk.2) (.slice none 0 0)) (fun _ hk => hk.2) (.slice Ao17 y107.length co17)) (fun _ h_ => h_.1))))) (below_size (tg1 HB.out GE110.out))); have n4_ := Aside0.mk (blk_below (g := gb110) (o := .cells #[.string (⟨#[]⟩ : ByteArray), .slice none 0 0, .slice Ao19 y104.length co19, .slice Ao18 y101.length co18, .slice none 0 0, .slice Ao17 y107.length co17] 26 (0, 0)) (by (with_reducible repeat (first | refine blk_drewN ?_ _ | refine blk_drew ?_ | refine blk_alloc ?_ _)); refine blk_put (cs := #[.string (⟨#[]⟩ : ByteArray), .slice none 0 0, .slice Ao19 y104.length co19, .slice Ao18 y101.length co18, .slice none 0 0, .slice none 0 0]) ?_ 5 _ rfl; (with_reducible repeat (first | refine blk_drewN ?_ _ | refine blk_drew ?_ | refine blk_alloc ?_ _)); refine blk_put (cs := #[.string (⟨#[]⟩ : ByteArray), .slice none 0 0, .slice Ao19 y104.length co19, .slice Ao18 y101.length co18, .slice none 0 0, .slice none 0 0]) ?_ 4 _ rfl; (with_reducible repeat (first | refine blk_drewN ?_ _ | refine blk_drew ?_ | refine blk_alloc ?_ _)); refine blk_put (cs := #[.string (⟨#[]⟩ : ByteArray), .slice none 0 0, .slice Ao19 y104.length co19, .slice none 0 0, .slice none 0 0, .slice none 0 0]) ?_ 3 _ rfl; (with_reducible repeat (first | refine blk_drewN ?_ _ | refine blk_drew ?_ | refine blk_alloc ?_ _)); refine blk_put (cs := #[.string (⟨#[]⟩ : ByteArray), .slice none 0 0, .slice none 0 0, .slice none 0 0, .slice none 0 0, .slice none 0 0]) ?_ 2 _ rfl; (with_reducible repeat (first | refine blk_drewN ?_ _ | refine blk_drew ?_ | refine blk_alloc ?_ _)); refine blk_put (cs := #[.string (⟨#[]⟩ : ByteArray), .slice none 0 0, .slice none 0 0, .slice none 0 0, .slice none 0 0, .slice none 0 0]) ?_ 1 _ rfl; (with_reducible repeat (first | refine blk_drewN ?_ _ | refine blk_drew ?_ | refine blk_alloc ?_ _)); refine blk_put (cs := #[.string (⟨#[]⟩ : ByteArray), .slice none 0 0, .slice none 0 0, .slice none 0 0, .slice none 0 0, .slice none 0 0]) ?_ 0 _ rfl; (with_reducible repeat (first | refine blk_drewN ?_ _ | refine blk_drew ?_ | refine blk_alloc ?_ _)); exact BK110.out) hb); have n5_ := Aside0.mk (below_step (tg1 HB.out GE110.out) hb); clear HO103; clear HO106; clear HO109; clear BK110; clear HB; have HO103 := n0_; have HO106 := n1_; have HO109 := n2_; have HO113 := n3_; have BK110 := n4_; have HB := n5_; clear n0_ n1_ n2_ n3_ n4_ n5_; clear hb ho23; obtain ⟨Ao24, co24, eo24⟩ := Kd.R_slice HO113.out; subst eo24) | (go_at_call 33; (refine (link_Image.calls k (⟨#[]⟩ : ByteArray) _ _ ([] : List ByteArray) _ _ y104 _ _ y101 _ _ ([] : List Int) _ _ y107 80 96 _ _ y111 t114 t117 _ ?side1 ?side2 ?side3 ?side4 ?side5 ?side6 ?side7 ?side8 ?side9 ?side10 ?side11 ?side12 A1.out).mono ?_); (case side1 => exact Kd.C_nil _ _); (case side2 => exact Nat.le_refl _); (case side3 => exact tr HO106.out); (case side4 => exact rl HO106.out); (case side5 => exact tr HO103.out); (case side6 => exact rl HO103.out); (case side7 => exact Kd.C_nil _ _); (case side8 => exact Nat.le_refl _); (case side9 => exact tr HO109.out); (case side10 => exact rl HO109.out); (case side11 => exact tr HO113.out); (case side12 => exact rl HO113.out); rintro e w25 ⟨v115, rfl, ho0, hb⟩; have n0_ := Aside0.mk (Kd.R_elder' (tk HO103.out) (Kd.R_base ho0) hb); have n1_ := ra HO106.out hb; have n2_ := ra HO109.out hb; have n3_ := Aside0.mk (Kd.R_elder' (tk HO113.out) (Kd.R_base ho0) hb); have n4_ := Aside0.mk (Kd.R_lower (Kd.R_new' (Kd.R_new' ho0 (Kd.R_lt (tk HO103.out))) (Kd.R_lt (tk HO113.out))) (below_size (tg1 HB.out GE110.out))); have n5_ := ba BK110.out hb; have n6_ := Aside0.mk (below_step (tg1 HB.out GE110.out) hb); clear HO103; clear HO106; clear HO109; clear HO113; clear BK110; clear HB; have HO103 := n0_; have HO106 := n1_; have HO109 := n2_; have HO113 := n3_; have HO116 := n4_; have BK110 := n5_; have HB := n6_; clear n0_ n1_ n2_ n3_ n4_ n5_ n6_; (try clear hb); (try clear ho0); obtain ⟨Ao26, co26, eo26⟩ := Kd.R_slice HO116.out; subst eo26; have p118 : 0 ≤ (0 : Int) := (by omega); have q118 : 0 < (t114.length : Int) := td; obtain ⟨ad118, e118, hx118_0⟩ := Kd.at_int (Kd.R_reads' HO116.out).2.2 0 p118 q118; cases e118; have qi118 : (0 < t114.length) = True := eq_true (by omega); (try rw [show ((0 : Int)).toNat = 0 from rfl] at hx118_0); (try rw [Addr.add_zero'] at hx118_0); replace p118 := eq_true p118; replace q118 := eq_true q118; have p119 : 0 ≤ (1 : Int) := (by omega); have q119 : 1 < (t114.length : Int) := td; obtain ⟨ad119, e119, hx119_0⟩ := Kd.at_int (Kd.R_reads' HO116.out).2.2 1 p119 q119; obtain rfl : ad118 = ad119 := (by injection e119); (try simp only [show (1 : Int).toNat = 1 from rfl, Nat.reduceMul, Nat.reduceEqDiff, Go.Addr.add, ↓reduceIte] at hx119_0); have qi119 : (1 < t114.length) = True := eq_true (by omega); (try rw [show ((1 : Int)).toNat = 1 from rfl] at hx119_0); replace p119 := eq_true p119; replace q119 := eq_true q119; obtain ⟨hcz27_0, hcz27_1, hcz27_2, hcz27_3, hcz27_4, hcz27_5, hfz27_0, hfz27_1, hfz27_2, hfz27_3, hfz27_4, hfz27_5⟩ := cq6 BK110.out; have p120 : 0 ≤ (1 : Int) := (by omega); have q120 : 1 < (y101.length : Int) := td; obtain ⟨ad120, e120, hx120_0⟩ := Kd.at_int (Kd.R_reads' HO103.out).2.2 1 p120 q120; cases e120; (try simp only [show (1 : Int).toNat = 1 from rfl, Nat.reduceMul, Nat.reduceEqDiff, Go.Addr.add, ↓reduceIte] at hx120_0); have qi120 : (1 < y101.length) = True := eq_true (by omega); (try rw [show ((1 : Int)).toNat = 1 from rfl] at hx120_0); replace p120 := eq_true p120; replace q120 := eq_true q120; have p121 : 0 ≤ (2 : Int) := (by omega); have q121 : 2 < (t114.length : Int) := td; obtain ⟨ad121, e121, hx121_0⟩ := Kd.at_int (Kd.R_reads' HO116.out).2.2 2 p121 q121; obtain rfl : ad118 = ad121 := (by injection e121); (try simp only [show (2 : Int).toNat = 2 from rfl, Nat.reduceMul, Nat.reduceEqDiff, Go.Addr.add, ↓reduceIte] at hx121_0); have qi121 : (2 < t114.length) = True := eq_true (by omega); (try rw [show ((2 : Int)).toNat = 2 from rfl] at hx121_0); replace p121 := eq_true p121; replace q121 := eq_true q121))
          repeat (go_quiet (first | ((with_reducible refine gate_dst (N := 4) rfl ?_); (try (refine gate_guard (by rfl) ?_; dsimp only)); refine Kd.R_lit (Kd.int .u32) _ 44 ?hg (N := 4) ?hd (xs := ([2281701376, 2415919104] : List Int)) (inner := [.int .u32 2281701376, .int .u32 2415919104]) (ok := fun _ => True) (okp := fun _ => True) ?hr ?hp (fun _ hk => hk) trivial (Below.refl _ _) (Nat.le_refl _) (by simp) ?_; (case hd => rfl); (case hg => rfl); (case hr => first | (go_simp; done) | (go_simp; rfl)); (case hp => exact (Reps.one (show Kd.M (Kd.int .u32) _ _ _ 2281701376 [.int .u32 2281701376] from rfl) (Reps.one (show Kd.M (Kd.int .u32) _ _ _ 2415919104 [.int .u32 2415919104] from rfl) (Reps.none _ _)))); intro v102 w11 ho12 hb hg_ hnew_; clear hg_ hnew_; (first | rw [← Ny101.out] at ho12 | (simp only [Int.reduceToNat] at ho12; rw [← Ny101.out] at ho12)); have HO103 := Aside0.mk (Kd.R_lower ho12 (below_size (tg HB.out))); replace HB := Aside0.mk (below_step (tg HB.out) hb); clear hb ho12) | ((with_reducible refine gate_dst (N := 5) rfl ?_); (try (refine gate_guard (by rfl) ?_; dsimp only)); refine Kd.R_lit Kd.string _ 9 ?hg (N := 5) ?hd (xs := ([(⟨#[102]⟩ : ByteArray)] : List ByteArray)) (inner := [.string (⟨#[102]⟩ : ByteArray)]) (ok := fun _ => True) (okp := fun _ => True) ?hr ?hp (fun _ hk => hk) trivial (Below.refl _ _) (Nat.le_refl _) (by simp) ?_; (case hd => rfl); (case hg => rfl); (case hr => first | (go_simp; done) | (go_simp; rfl)); (case hp => exact (Reps.one (show Kd.M Kd.string _ _ _ (⟨#[102]⟩ : ByteArray) [.string (⟨#[102]⟩ : ByteArray)] from rfl) (Reps.none _ _))); intro v105 w13 ho14 hb hg_ hnew_; clear hg_ hnew_; (first | rw [← Ny104.out] at ho14 | (simp only [Int.reduceToNat] at ho14; rw [← Ny104.out] at ho14)); replace HO103 := ra HO103.out hb; have HO106 := Aside0.mk (Kd.R_lower ho14 (below_size (tg HB.out))); replace HB := Aside0.mk (below_step (tg HB.out) hb); clear hb ho14) | ((with_reducible refine gate_dst (N := 7) rfl ?_); (try (refine gate_guard (by rfl) ?_; dsimp only)); refine Kd.R_lit k43 _ 43 ?hg (N := 7) ?hd (xs := ([(⟨0, 0, 0⟩ : S43)] : List (S43))) (inner := [.int .u8 0, .int .u16 0, .int .u16 0]) (ok := fun _ => True) (okp := fun _ => True) ?hr ?hp (fun _ hk => hk) trivial (Below.refl _ _) (Nat.le_refl _) (by simp) ?_; (case hd => rfl); (case hg => rfl); (case hr => first | (go_simp; done) | (go_simp; rfl)); (case hp => exact (Reps.c3 (show Kd.M k43 _ _ _ (⟨0, 0, 0⟩ : S43) [.int .u8 0, .int .u16 0, .int .u16 0] from (k43_mkM _ _ _ (⟨0, 0, 0⟩ : S43) )) (Reps.none _ _))); intro v108 w15 ho16 hb hg_ hnew_; clear hg_ hnew_; (first | rw [← Ny107.out] at ho16 | (simp only [Int.reduceToNat] at ho16; rw [← Ny107.out] at ho16)); replace HO103 := ra HO103.out hb; replace HO106 := ra HO106.out hb; have HO109 := Aside0.mk (Kd.R_lower ho16 (below_size (tg HB.out))); replace HB := Aside0.mk (below_step (tg HB.out) hb); clear hb ho16; obtain ⟨Ao17, co17, eo17⟩ := Kd.R_slice HO109.out; subst eo17; obtain ⟨Ao18, co18, eo18⟩ := Kd.R_slice HO103.out; subst eo18; obtain ⟨Ao19, co19, eo19⟩ := Kd.R_slice HO106.out; subst eo19) | ((with_reducible refine gate_dst (N := 1) rfl ?_); (try (refine gate_guard (by rfl) ?_; dsimp only)); refine box_event ?hg (N := 1) ?hd (cs := #[.string (⟨#[]⟩ : ByteArray), .slice none 0 0, .slice none 0 0, .slice none 0 0, .slice none 0 0, .slice none 0 0]) (t := 26) ?hr ?_; (case hd => rfl); (case hg => rfl); (case hr => first | (go_simp; done) | (go_simp; rfl)); intro gb110 hg w20 hbox hb; have n0_ := ra HO103.out hb; have n1_ := ra HO106.out hb; have n2_ := ra HO109.out hb; have n3_ := Aside0.mk (below_step (tg HB.out) hb); have n4_ := Aside0.mk (hbox); have n5_ := Aside0.mk ((by rw [hg]; exact (below_size (tg HB.out)) : w.heap.size ≤ gb110)); have n6_ := Aside0.mk ((by rw [hg]; exact (below_size (tg HB.out)) : w.heap.size ≤ gb110)); clear HO103; clear HO106; clear HO109; clear HB; have HO103 := n0_; have HO106 := n1_; have HO109 := n2_; have HB := n3_; have BK110 := n4_; have GW110 := n5_; have GE110 := n6_; clear n0_ n1_ n2_ n3_ n4_ n5_ n6_; clear hb hbox hg; obtain ⟨hcz21_0, hcz21_1, hcz21_2, hcz21_3, hcz21_4, hcz21_5, hfz21_0, hfz21_1, hfz21_2, hfz21_3, hfz21_4, hfz21_5⟩ := cq6 BK110.out) | ((with_reducible refine gate_dst (N := 12) rfl ?_); (try (refine gate_guard (by rfl) ?_; dsimp only)); refine Kd.R_lit (Kd.int .u32) _ 44 ?hg (N := 12) ?hd (xs := ([17] : List Int)) (inner := [.int .u32 17]) (ok := fun _ => True) (okp := fun _ => True) ?hr ?hp (fun _ hk => hk) trivial (Below.refl _ _) (Nat.le_refl _) (by simp) ?_; (case hd => rfl); (case hg => rfl); (case hr => first | (go_simp; done) | (go_simp; rfl)); (case hp => exact (Reps.one (show Kd.M (Kd.int .u32) _ _ _ 17 [.int .u32 17] from rfl) (Reps.none _ _))); intro v112 w22 ho23 hb hg_ hnew_; clear hg_ hnew_; (first | rw [← Ny111.out] at ho23 | (simp only [Int.reduceToNat] at ho23; rw [← Ny111.out] at ho23)); have n0_ := Aside0.mk (Kd.R_elder' (by (with_reducible repeat (first | apply Kd.R_alloc | apply Kd.R_drewN | apply Kd.R_drew)); exact (Kd.R_mono (Kd.R_far (p := ⟨gb110, 5, none⟩) (Kd.R_far (p := ⟨gb110, 4, none⟩) (Kd.R_far (p := ⟨gb110, 3, none⟩) (Kd.R_far (p := ⟨gb110, 2, none⟩) (Kd.R_far (p := ⟨gb110, 1, none⟩) (Kd.R_far (p := ⟨gb110, 0, none⟩) (Kd.R_types HO103.out BK110.out (by decide)) (fun _ hk => hk.2) (.string (⟨#[]⟩ : ByteArray))) (fun _ hk => hk.2) (.slice none 0 0)) (fun _ hk => hk.2) (.slice Ao19 y104.length co19)) (fun _ hk => hk.2) (.slice Ao18 y101.length co18)) (fun _ hk => hk.2) (.slice none 0 0)) (fun _ hk => hk.2) (.slice Ao17 y107.length co17)) (fun _ h_ => h_.1))) (Kd.R_base ho23) hb); have n1_ := Aside0.mk (Kd.R_below (by (with_reducible repeat (first | apply Kd.R_alloc | apply Kd.R_drewN | apply Kd.R_drew)); exact (Kd.R_mono (Kd.R_far (p := ⟨gb110, 5, none⟩) (Kd.R_far (p := ⟨gb110, 4, none⟩) (Kd.R_far (p := ⟨gb110, 3, none⟩) (Kd.R_far (p := ⟨gb110, 2, none⟩) (Kd.R_far (p := ⟨gb110, 1, none⟩) (Kd.R_far (p := ⟨gb110, 0, none⟩) (Kd.R_types HO106.out BK110.out (by decide)) (fun _ hk => hk.2) (.string (⟨#[]⟩ : ByteArray))) (fun _ hk => hk.2) (.slice none 0 0)) (fun _ hk => hk.2) (.slice Ao19 y104.length co19)) (fun _ hk => hk.2) (.slice Ao18 y101.length co18)) (fun _ hk => hk.2) (.slice none 0 0)) (fun _ hk => hk.2) (.slice Ao17 y107.length co17)) (fun _ h_ => h_.1))) hb); have n2_ := Aside0.mk (Kd.R_below (by (with_reducible repeat (first | apply Kd.R_alloc | apply Kd.R_drewN | apply Kd.R_drew)); exact (Kd.R_mono (Kd.R_far (p := ⟨gb110, 5, none⟩) (Kd.R_far (p := ⟨gb110, 4, none⟩) (Kd.R_far (p := ⟨gb110, 3, none⟩) (Kd.R_far (p := ⟨gb110, 2, none⟩) (Kd.R_far (p := ⟨gb110, 1, none⟩) (Kd.R_far (p := ⟨gb110, 0, none⟩) (Kd.R_types HO109.out BK110.out (by decide)) (fun _ hk => hk.2) (.string (⟨#[]⟩ : ByteArray))) (fun _ hk => hk.2) (.slice none 0 0)) (fun _ hk => hk.2) (.slice Ao19 y104.length co19)) (fun _ hk => hk.2) (.slice Ao18 y101.length co18)) (fun _ hk => hk.2) (.slice none 0 0)) (fun _ hk => hk.2) (.slice Ao17 y107.length co17)) (fun _ h_ => h_.1))) hb); have n3_ := Aside0.mk (Kd.R_lower (Kd.R_new' ho23 (Kd.R_lt (by (with_reducible repeat (first | apply Kd.R_alloc | apply Kd.R_drewN | apply Kd.R_drew)); exact (Kd.R_mono (Kd.R_far (p := ⟨gb110, 5, none⟩) (Kd.R_far (p := ⟨gb110, 4, none⟩) (Kd.R_far (p := ⟨gb110, 3, none⟩) (Kd.R_far (p := ⟨gb110, 2, none⟩) (Kd.R_far (p := ⟨gb110, 1, none⟩) (Kd.R_far (p := ⟨gb110, 0, none⟩) (Kd.R_types HO103.out BK110.out (by decide)) (fun _ hk => hk.2) (.string (⟨#[]⟩ : ByteArray))) (fun _ hk => hk.2) (.slice none 0 0)) (fun _ hk => hk.2) (.slice Ao19 y104.length co19)) (fun _ hk => hk.2) (.slice Ao18 y101.length co18)) (fun _ hk => hk.2) (.slice none 0 0)) (fun _ hk => hk.2) (.slice Ao17 y107.length co17)) (fun _ h_ => h_.1))))) (below_size (tg1 HB.out GE110.out))); have n4_ := Aside0.mk (blk_below (g := gb110) (o := .cells #[.string (⟨#[]⟩ : ByteArray), .slice none 0 0, .slice Ao19 y104.length co19, .slice Ao18 y101.length co18, .slice none 0 0, .slice Ao17 y107.length co17] 26 (0, 0)) (by (with_reducible repeat (first | refine blk_drewN ?_ _ | refine blk_drew ?_ | refine blk_alloc ?_ _)); refine blk_put (cs := #[.string (⟨#[]⟩ : ByteArray), .slice none 0 0, .slice Ao19 y104.length co19, .slice Ao18 y101.length co18, .slice none 0 0, .slice none 0 0]) ?_ 5 _ rfl; (with_reducible repeat (first | refine blk_drewN ?_ _ | refine blk_drew ?_ | refine blk_alloc ?_ _)); refine blk_put (cs := #[.string (⟨#[]⟩ : ByteArray), .slice none 0 0, .slice Ao19 y104.length co19, .slice Ao18 y101.length co18, .slice none 0 0, .slice none 0 0]) ?_ 4 _ rfl; (with_reducible repeat (first | refine blk_drewN ?_ _ | refine blk_drew ?_ | refine blk_alloc ?_ _)); refine blk_put (cs := #[.string (⟨#[]⟩ : ByteArray), .slice none 0 0, .slice Ao19 y104.length co19, .slice none 0 0, .slice none 0 0, .slice none 0 0]) ?_ 3 _ rfl; (with_reducible repeat (first | refine blk_drewN ?_ _ | refine blk_drew ?_ | refine blk_alloc ?_ _)); refine blk_put (cs := #[.string (⟨#[]⟩ : ByteArray), .slice none 0 0, .slice none 0 0, .slice none 0 0, .slice none 0 0, .slice none 0 0]) ?_ 2 _ rfl; (with_reducible repeat (first | refine blk_drewN ?_ _ | refine blk_drew ?_ | refine blk_alloc ?_ _)); refine blk_put (cs := #[.string (⟨#[]⟩ : ByteArray), .slice none 0 0, .slice none 0 0, .slice none 0 0, .slice none 0 0, .slice none 0 0]) ?_ 1 _ rfl; (with_reducible repeat (first | refine blk_drewN ?_ _ | refine blk_drew ?_ | refine blk_alloc ?_ _)); refine blk_put (cs := #[.string (⟨#[]⟩ : ByteArray), .slice none 0 0, .slice none 0 0, .slice none 0 0, .slice none 0 0, .slice none 0 0]) ?_ 0 _ rfl; (with_reducible repeat (first | refine blk_drewN ?_ _ | refine blk_drew ?_ | refine blk_alloc ?_ _)); exact BK110.out) hb); have n5_ := Aside0.mk (below_step (tg1 HB.out GE110.out) hb); clear HO103; clear HO106; clear HO109; clear BK110; clear HB; have HO103 := n0_; have HO106 := n1_; have HO109 := n2_; have HO113 := n3_; have BK110 := n4_; have HB := n5_; clear n0_ n1_ n2_ n3_ n4_ n5_; clear hb ho23; obtain ⟨Ao24, co24, eo24⟩ := Kd.R_slice HO113.out; subst eo24) | (go_at_call 33; (refine (link_Image.calls k (⟨#[]⟩ : ByteArray) _ _ ([] : List ByteArray) _ _ y104 _ _ y101 _ _ ([] : List Int) _ _ y107 80 96 _ _ y111 t114 t117 _ ?side1 ?side2 ?side3 ?side4 ?side5 ?side6 ?side7 ?side8 ?side9 ?side10 ?side11 ?side12 A1.out).mono ?_); (case side1 => exact Kd.C_nil _ _); (case side2 => exact Nat.le_refl _); (case side3 => exact tr HO106.out); (case side4 => exact rl HO106.out); (case side5 => exact tr HO103.out); (case side6 => exact rl HO103.out); (case side7 => exact Kd.C_nil _ _); (case side8 => exact Nat.le_refl _); (case side9 => exact tr HO109.out); (case side10 => exact rl HO109.out); (case side11 => exact tr HO113.out); (case side12 => exact rl HO113.out); rintro e w25 ⟨v115, rfl, ho0, hb⟩; have n0_ := Aside0.mk (Kd.R_elder' (tk HO103.out) (Kd.R_base ho0) hb); have n1_ := ra HO106.out hb; have n2_ := ra HO109.out hb; have n3_ := Aside0.mk (Kd.R_elder' (tk HO113.out) (Kd.R_base ho0) hb); have n4_ := Aside0.mk (Kd.R_lower (Kd.R_new' (Kd.R_new' ho0 (Kd.R_lt (tk HO103.out))) (Kd.R_lt (tk HO113.out))) (below_size (tg1 HB.out GE110.out))); have n5_ := ba BK110.out hb; have n6_ := Aside0.mk (below_step (tg1 HB.out GE110.out) hb); clear HO103; clear HO106; clear HO109; clear HO113; clear BK110; clear HB; have HO103 := n0_; have HO106 := n1_; have HO109 := n2_; have HO113 := n3_; have HO116 := n4_; have BK110 := n5_; have HB := n6_; clear n0_ n1_ n2_ n3_ n4_ n5_ n6_; (try clear hb); (try clear ho0); obtain ⟨Ao26, co26, eo26⟩ := Kd.R_slice HO116.out; subst eo26; have p118 : 0 ≤ (0 : Int) := (by omega); have q118 : 0 < (t114.length : Int) := td; obtain ⟨ad118, e118, hx118_0⟩ := Kd.at_int (Kd.R_reads' HO116.out).2.2 0 p118 q118; cases e118; have qi118 : (0 < t114.length) = True := eq_true (by omega); (try rw [show ((0 : Int)).toNat = 0 from rfl] at hx118_0); (try rw [Addr.add_zero'] at hx118_0); replace p118 := eq_true p118; replace q118 := eq_true q118; have p119 : 0 ≤ (1 : Int) := (by omega); have q119 : 1 < (t114.length : Int) := td; obtain ⟨ad119, e119, hx119_0⟩ := Kd.at_int (Kd.R_reads' HO116.out).2.2 1 p119 q119; obtain rfl : ad118 = ad119 := (by injection e119); (try simp only [show (1 : Int).toNat = 1 from rfl, Nat.reduceMul, Nat.reduceEqDiff, Go.Addr.add, ↓reduceIte] at hx119_0); have qi119 : (1 < t114.length) = True := eq_true (by omega); (try rw [show ((1 : Int)).toNat = 1 from rfl] at hx119_0); replace p119 := eq_true p119; replace q119 := eq_true q119; obtain ⟨hcz27_0, hcz27_1, hcz27_2, hcz27_3, hcz27_4, hcz27_5, hfz27_0, hfz27_1, hfz27_2, hfz27_3, hfz27_4, hfz27_5⟩ := cq6 BK110.out; have p120 : 0 ≤ (1 : Int) := (by omega); have q120 : 1 < (y101.length : Int) := td; obtain ⟨ad120, e120, hx120_0⟩ := Kd.at_int (Kd.R_reads' HO103.out).2.2 1 p120 q120; cases e120; (try simp only [show (1 : Int).toNat = 1 from rfl, Nat.reduceMul, Nat.reduceEqDiff, Go.Addr.add, ↓reduceIte] at hx120_0); have qi120 : (1 < y101.length) = True := eq_true (by omega); (try rw [show ((1 : Int)).toNat = 1 from rfl] at hx120_0); replace p120 := eq_true p120; replace q120 := eq_true q120; have p121 : 0 ≤ (2 : Int) := (by omega); have q121 : 2 < (t114.length : Int) := td; obtain ⟨ad121, e121, hx121_0⟩ := Kd.at_int (Kd.R_reads' HO116.out).2.2 2 p121 q121; obtain rfl : ad118 = ad121 := (by injection e121); (try simp only [show (2 : Int).toNat = 2 from rfl, Nat.reduceMul, Nat.reduceEqDiff, Go.Addr.add, ↓reduceIte] at hx121_0); have qi121 : (2 < t114.length) = True := eq_true (by omega); (try rw [show ((2 : Int)).toNat = 2 from rfl] at hx121_0); replace p121 := eq_true p121; replace q121 := eq_true q121)); try go_wp2_with (first | ((with_reducible refine gate_dst (N := 4) rfl ?_); (try (refine gate_guard (by rfl) ?_; dsimp only)); refine Kd.R_lit (Kd.int .u32) _ 44 ?hg (N := 4) ?hd (xs := ([2281701376, 2415919104] : List Int)) (inner := [.int .u32 2281701376, .int .u32 2415919104]) (ok := fun _ => True) (okp := fun _ => True) ?hr ?hp (fun _ hk => hk) trivial (Below.refl _ _) (Nat.le_refl _) (by simp) ?_; (case hd => rfl); (case hg => rfl); (case hr => first | (go_simp; done) | (go_simp; rfl)); (case hp => exact (Reps.one (show Kd.M (Kd.int .u32) _ _ _ 2281701376 [.int .u32 2281701376] from rfl) (Reps.one (show Kd.M (Kd.int .u32) _ _ _ 2415919104 [.int .u32 2415919104] from rfl) (Reps.none _ _)))); intro v102 w11 ho12 hb hg_ hnew_; clear hg_ hnew_; (first | rw [← Ny101.out] at ho12 | (simp only [Int.reduceToNat] at ho12; rw [← Ny101.out] at ho12)); have HO103 := Aside0.mk (Kd.R_lower ho12 (below_size (tg HB.out))); replace HB := Aside0.mk (below_step (tg HB.out) hb); clear hb ho12) | ((with_reducible refine gate_dst (N := 5) rfl ?_); (try (refine gate_guard (by rfl) ?_; dsimp only)); refine Kd.R_lit Kd.string _ 9 ?hg (N := 5) ?hd (xs := ([(⟨#[102]⟩ : ByteArray)] : List ByteArray)) (inner := [.string (⟨#[102]⟩ : ByteArray)]) (ok := fun _ => True) (okp := fun _ => True) ?hr ?hp (fun _ hk => hk) trivial (Below.refl _ _) (Nat.le_refl _) (by simp) ?_; (case hd => rfl); (case hg => rfl); (case hr => first | (go_simp; done) | (go_simp; rfl)); (case hp => exact (Reps.one (show Kd.M Kd.string _ _ _ (⟨#[102]⟩ : ByteArray) [.string (⟨#[102]⟩ : ByteArray)] from rfl) (Reps.none _ _))); intro v105 w13 ho14 hb hg_ hnew_; clear hg_ hnew_; (first | rw [← Ny104.out] at ho14 | (simp only [Int.reduceToNat] at ho14; rw [← Ny104.out] at ho14)); replace HO103 := ra HO103.out hb; have HO106 := Aside0.mk (Kd.R_lower ho14 (below_size (tg HB.out))); replace HB := Aside0.mk (below_step (tg HB.out) hb); clear hb ho14) | ((with_reducible refine gate_dst (N := 7) rfl ?_); (try (refine gate_guard (by rfl) ?_; dsimp only)); refine Kd.R_lit k43 _ 43 ?hg (N := 7) ?hd (xs := ([(⟨0, 0, 0⟩ : S43)] : List (S43))) (inner := [.int .u8 0, .int .u16 0, .int .u16 0]) (ok := fun _ => True) (okp := fun _ => True) ?hr ?hp (fun _ hk => hk) trivial (Below.refl _ _) (Nat.le_refl _) (by simp) ?_; (case hd => rfl); (case hg => rfl); (case hr => first | (go_simp; done) | (go_simp; rfl)); (case hp => exact (Reps.c3 (show Kd.M k43 _ _ _ (⟨0, 0, 0⟩ : S43) [.int .u8 0, .int .u16 0, .int .u16 0] from (k43_mkM _ _ _ (⟨0, 0, 0⟩ : S43) )) (Reps.none _ _))); intro v108 w15 ho16 hb hg_ hnew_; clear hg_ hnew_; (first | rw [← Ny107.out] at ho16 | (simp only [Int.reduceToNat] at ho16; rw [← Ny107.out] at ho16)); replace HO103 := ra HO103.out hb; replace HO106 := ra HO106.out hb; have HO109 := Aside0.mk (Kd.R_lower ho16 (below_size (tg HB.out))); replace HB := Aside0.mk (below_step (tg HB.out) hb); clear hb ho16; obtain ⟨Ao17, co17, eo17⟩ := Kd.R_slice HO109.out; subst eo17; obtain ⟨Ao18, co18, eo18⟩ := Kd.R_slice HO103.out; subst eo18; obtain ⟨Ao19, co19, eo19⟩ := Kd.R_slice HO106.out; subst eo19) | ((with_reducible refine gate_dst (N := 1) rfl ?_); (try (refine gate_guard (by rfl) ?_; dsimp only)); refine box_event ?hg (N := 1) ?hd (cs := #[.string (⟨#[]⟩ : ByteArray), .slice none 0 0, .slice none 0 0, .slice none 0 0, .slice none 0 0, .slice none 0 0]) (t := 26) ?hr ?_; (case hd => rfl); (case hg => rfl); (case hr => first | (go_simp; done) | (go_simp; rfl)); intro gb110 hg w20 hbox hb; have n0_ := ra HO103.out hb; have n1_ := ra HO106.out hb; have n2_ := ra HO109.out hb; have n3_ := Aside0.mk (below_step (tg HB.out) hb); have n4_ := Aside0.mk (hbox); have n5_ := Aside0.mk ((by rw [hg]; exact (below_size (tg HB.out)) : w.heap.size ≤ gb110)); have n6_ := Aside0.mk ((by rw [hg]; exact (below_size (tg HB.out)) : w.heap.size ≤ gb110)); clear HO103; clear HO106; clear HO109; clear HB; have HO103 := n0_; have HO106 := n1_; have HO109 := n2_; have HB := n3_; have BK110 := n4_; have GW110 := n5_; have GE110 := n6_; clear n0_ n1_ n2_ n3_ n4_ n5_ n6_; clear hb hbox hg; obtain ⟨hcz21_0, hcz21_1, hcz21_2, hcz21_3, hcz21_4, hcz21_5, hfz21_0, hfz21_1, hfz21_2, hfz21_3, hfz21_4, hfz21_5⟩ := cq6 BK110.out) | ((with_reducible refine gate_dst (N := 12) rfl ?_); (try (refine gate_guard (by rfl) ?_; dsimp only)); refine Kd.R_lit (Kd.int .u32) _ 44 ?hg (N := 12) ?hd (xs := ([17] : List Int)) (inner := [.int .u32 17]) (ok := fun _ => True) (okp := fun _ => True) ?hr ?hp (fun _ hk => hk) trivial (Below.refl _ _) (Nat.le_refl _) (by simp) ?_; (case hd => rfl); (case hg => rfl); (case hr => first | (go_simp; done) | (go_simp; rfl)); (case hp => exact (Reps.one (show Kd.M (Kd.int .u32) _ _ _ 17 [.int .u32 17] from rfl) (Reps.none _ _))); intro v112 w22 ho23 hb hg_ hnew_; clear hg_ hnew_; (first | rw [← Ny111.out] at ho23 | (simp only [Int.reduceToNat] at ho23; rw [← Ny111.out] at ho23)); have n0_ := Aside0.mk (Kd.R_elder' (by (with_reducible repeat (first | apply Kd.R_alloc | apply Kd.R_drewN | apply Kd.R_drew)); exact (Kd.R_mono (Kd.R_far (p := ⟨gb110, 5, none⟩) (Kd.R_far (p := ⟨gb110, 4, none⟩) (Kd.R_far (p := ⟨gb110, 3, none⟩) (Kd.R_far (p := ⟨gb110, 2, none⟩) (Kd.R_far (p := ⟨gb110, 1, none⟩) (Kd.R_far (p := ⟨gb110, 0, none⟩) (Kd.R_types HO103.out BK110.out (by decide)) (fun _ hk => hk.2) (.string (⟨#[]⟩ : ByteArray))) (fun _ hk => hk.2) (.slice none 0 0)) (fun _ hk => hk.2) (.slice Ao19 y104.length co19)) (fun _ hk => hk.2) (.slice Ao18 y101.length co18)) (fun _ hk => hk.2) (.slice none 0 0)) (fun _ hk => hk.2) (.slice Ao17 y107.length co17)) (fun _ h_ => h_.1))) (Kd.R_base ho23) hb); have n1_ := Aside0.mk (Kd.R_below (by (with_reducible repeat (first | apply Kd.R_alloc | apply Kd.R_drewN | apply Kd.R_drew)); exact (Kd.R_mono (Kd.R_far (p := ⟨gb110, 5, none⟩) (Kd.R_far (p := ⟨gb110, 4, none⟩) (Kd.R_far (p := ⟨gb110, 3, none⟩) (Kd.R_far (p := ⟨gb110, 2, none⟩) (Kd.R_far (p := ⟨gb110, 1, none⟩) (Kd.R_far (p := ⟨gb110, 0, none⟩) (Kd.R_types HO106.out BK110.out (by decide)) (fun _ hk => hk.2) (.string (⟨#[]⟩ : ByteArray))) (fun _ hk => hk.2) (.slice none 0 0)) (fun _ hk => hk.2) (.slice Ao19 y104.length co19)) (fun _ hk => hk.2) (.slice Ao18 y101.length co18)) (fun _ hk => hk.2) (.slice none 0 0)) (fun _ hk => hk.2) (.slice Ao17 y107.length co17)) (fun _ h_ => h_.1))) hb); have n2_ := Aside0.mk (Kd.R_below (by (with_reducible repeat (first | apply Kd.R_alloc | apply Kd.R_drewN | apply Kd.R_drew)); exact (Kd.R_mono (Kd.R_far (p := ⟨gb110, 5, none⟩) (Kd.R_far (p := ⟨gb110, 4, none⟩) (Kd.R_far (p := ⟨gb110, 3, none⟩) (Kd.R_far (p := ⟨gb110, 2, none⟩) (Kd.R_far (p := ⟨gb110, 1, none⟩) (Kd.R_far (p := ⟨gb110, 0, none⟩) (Kd.R_types HO109.out BK110.out (by decide)) (fun _ hk => hk.2) (.string (⟨#[]⟩ : ByteArray))) (fun _ hk => hk.2) (.slice none 0 0)) (fun _ hk => hk.2) (.slice Ao19 y104.length co19)) (fun _ hk => hk.2) (.slice Ao18 y101.length co18)) (fun _ hk => hk.2) (.slice none 0 0)) (fun _ hk => hk.2) (.slice Ao17 y107.length co17)) (fun _ h_ => h_.1))) hb); have n3_ := Aside0.mk (Kd.R_lower (Kd.R_new' ho23 (Kd.R_lt (by (with_reducible repeat (first | apply Kd.R_alloc | apply Kd.R_drewN | apply Kd.R_drew)); exact (Kd.R_mono (Kd.R_far (p := ⟨gb110, 5, none⟩) (Kd.R_far (p := ⟨gb110, 4, none⟩) (Kd.R_far (p := ⟨gb110, 3, none⟩) (Kd.R_far (p := ⟨gb110, 2, none⟩) (Kd.R_far (p := ⟨gb110, 1, none⟩) (Kd.R_far (p := ⟨gb110, 0, none⟩) (Kd.R_types HO103.out BK110.out (by decide)) (fun _ hk => hk.2) (.string (⟨#[]⟩ : ByteArray))) (fun _ hk => hk.2) (.slice none 0 0)) (fun _ hk => hk.2) (.slice Ao19 y104.length co19)) (fun _ hk => hk.2) (.slice Ao18 y101.length co18)) (fun _ hk => hk.2) (.slice none 0 0)) (fun _ hk => hk.2) (.slice Ao17 y107.length co17)) (fun _ h_ => h_.1))))) (below_size (tg1 HB.out GE110.out))); have n4_ := Aside0.mk (blk_below (g := gb110) (o := .cells #[.string (⟨#[]⟩ : ByteArray), .slice none 0 0, .slice Ao19 y104.length co19, .slice Ao18 y101.length co18, .slice none 0 0, .slice Ao17 y107.length co17] 26 (0, 0)) (by (with_reducible repeat (first | refine blk_drewN ?_ _ | refine blk_drew ?_ | refine blk_alloc ?_ _)); refine blk_put (cs := #[.string (⟨#[]⟩ : ByteArray), .slice none 0 0, .slice Ao19 y104.length co19, .slice Ao18 y101.length co18, .slice none 0 0, .slice none 0 0]) ?_ 5 _ rfl; (with_reducible repeat (first | refine blk_drewN ?_ _ | refine blk_drew ?_ | refine blk_alloc ?_ _)); refine blk_put (cs := #[.string (⟨#[]⟩ : ByteArray), .slice none 0 0, .slice Ao19 y104.length co19, .slice Ao18 y101.length co18, .slice none 0 0, .slice none 0 0]) ?_ 4 _ rfl; (with_reducible repeat (first | refine blk_drewN ?_ _ | refine blk_drew ?_ | refine blk_alloc ?_ _)); refine blk_put (cs := #[.string (⟨#[]⟩ : ByteArray), .slice none 0 0, .slice Ao19 y104.length co19, .slice none 0 0, .slice none 0 0, .slice none 0 0]) ?_ 3 _ rfl; (with_reducible repeat (first | refine blk_drewN ?_ _ | refine blk_drew ?_ | refine blk_alloc ?_ _)); refine blk_put (cs := #[.string (⟨#[]⟩ : ByteArray), .slice none 0 0, .slice none 0 0, .slice none 0 0, .slice none 0 0, .slice none 0 0]) ?_ 2 _ rfl; (with_reducible repeat (first | refine blk_drewN ?_ _ | refine blk_drew ?_ | refine blk_alloc ?_ _)); refine blk_put (cs := #[.string (⟨#[]⟩ : ByteArray), .slice none 0 0, .slice none 0 0, .slice none 0 0, .slice none 0 0, .slice none 0 0]) ?_ 1 _ rfl; (with_reducible repeat (first | refine blk_drewN ?_ _ | refine blk_drew ?_ | refine blk_alloc ?_ _)); refine blk_put (cs := #[.string (⟨#[]⟩ : ByteArray), .slice none 0 0, .slice none 0 0, .slice none 0 0, .slice none 0 0, .slice none 0 0]) ?_ 0 _ rfl; (with_reducible repeat (first | refine blk_drewN ?_ _ | refine blk_drew ?_ | refine blk_alloc ?_ _)); exact BK110.out) hb); have n5_ := Aside0.mk (below_step (tg1 HB.out GE110.out) hb); clear HO103; clear HO106; clear HO109; clear BK110; clear HB; have HO103 := n0_; have HO106 := n1_; have HO109 := n2_; have HO113 := n3_; have BK110 := n4_; have HB := n5_; clear n0_ n1_ n2_ n3_ n4_ n5_; clear hb ho23; obtain ⟨Ao24, co24, eo24⟩ := Kd.R_slice HO113.out; subst eo24) | (go_at_call 33; (refine (link_Image.calls k (⟨#[]⟩ : ByteArray) _ _ ([] : List ByteArray) _ _ y104 _ _ y101 _ _ ([] : List Int) _ _ y107 80 96 _ _ y111 t114 t117 _ ?side1 ?side2 ?side3 ?side4 ?side5 ?side6 ?side7 ?side8 ?side9 ?side10 ?side11 ?side12 A1.out).mono ?_); (case side1 => exact Kd.C_nil _ _); (case side2 => exact Nat.le_refl _); (case side3 => exact tr HO106.out); (case side4 => exact rl HO106.out); (case side5 => exact tr HO103.out); (case side6 => exact rl HO103.out); (case side7 => exact Kd.C_nil _ _); (case side8 => exact Nat.le_refl _); (case side9 => exact tr HO109.out); (case side10 => exact rl HO109.out); (case side11 => exact tr HO113.out); (case side12 => exact rl HO113.out); rintro e w25 ⟨v115, rfl, ho0, hb⟩; have n0_ := Aside0.mk (Kd.R_elder' (tk HO103.out) (Kd.R_base ho0) hb); have n1_ := ra HO106.out hb; have n2_ := ra HO109.out hb; have n3_ := Aside0.mk (Kd.R_elder' (tk HO113.out) (Kd.R_base ho0) hb); have n4_ := Aside0.mk (Kd.R_lower (Kd.R_new' (Kd.R_new' ho0 (Kd.R_lt (tk HO103.out))) (Kd.R_lt (tk HO113.out))) (below_size (tg1 HB.out GE110.out))); have n5_ := ba BK110.out hb; have n6_ := Aside0.mk (below_step (tg1 HB.out GE110.out) hb); clear HO103; clear HO106; clear HO109; clear HO113; clear BK110; clear HB; have HO103 := n0_; have HO106 := n1_; have HO109 := n2_; have HO113 := n3_; have HO116 := n4_; have BK110 := n5_; have HB := n6_; clear n0_ n1_ n2_ n3_ n4_ n5_ n6_; (try clear hb); (try clear ho0); obtain ⟨Ao26, co26, eo26⟩ := Kd.R_slice HO116.out; subst eo26; have p118 : 0 ≤ (0 : Int) := (by omega); have q118 : 0 < (t114.length : Int) := td; obtain ⟨ad118, e118, hx118_0⟩ := Kd.at_int (Kd.R_reads' HO116.out).2.2 0 p118 q118; cases e118; have qi118 : (0 < t114.length) = True := eq_true (by omega); (try rw [show ((0 : Int)).toNat = 0 from rfl] at hx118_0); (try rw [Addr.add_zero'] at hx118_0); replace p118 := eq_true p118; replace q118 := eq_true q118; have p119 : 0 ≤ (1 : Int) := (by omega); have q119 : 1 < (t114.length : Int) := td; obtain ⟨ad119, e119, hx119_0⟩ := Kd.at_int (Kd.R_reads' HO116.out).2.2 1 p119 q119; obtain rfl : ad118 = ad119 := (by injection e119); (try simp only [show (1 : Int).toNat = 1 from rfl, Nat.reduceMul, Nat.reduceEqDiff, Go.Addr.add, ↓reduceIte] at hx119_0); have qi119 : (1 < t114.length) = True := eq_true (by omega); (try rw [show ((1 : Int)).toNat = 1 from rfl] at hx119_0); replace p119 := eq_true p119; replace q119 := eq_true q119; obtain ⟨hcz27_0, hcz27_1, hcz27_2, hcz27_3, hcz27_4, hcz27_5, hfz27_0, hfz27_1, hfz27_2, hfz27_3, hfz27_4, hfz27_5⟩ := cq6 BK110.out; have p120 : 0 ≤ (1 : Int) := (by omega); have q120 : 1 < (y101.length : Int) := td; obtain ⟨ad120, e120, hx120_0⟩ := Kd.at_int (Kd.R_reads' HO103.out).2.2 1 p120 q120; cases e120; (try simp only [show (1 : Int).toNat = 1 from rfl, Nat.reduceMul, Nat.reduceEqDiff, Go.Addr.add, ↓reduceIte] at hx120_0); have qi120 : (1 < y101.length) = True := eq_true (by omega); (try rw [show ((1 : Int)).toNat = 1 from rfl] at hx120_0); replace p120 := eq_true p120; replace q120 := eq_true q120; have p121 : 0 ≤ (2 : Int) := (by omega); have q121 : 2 < (t114.length : Int) := td; obtain ⟨ad121, e121, hx121_0⟩ := Kd.at_int (Kd.R_reads' HO116.out).2.2 2 p121 q121; obtain rfl : ad118 = ad121 := (by injection e121); (try simp only [show (2 : Int).toNat = 2 from rfl, Nat.reduceMul, Nat.reduceEqDiff, Go.Addr.add, ↓reduceIte] at hx121_0); have qi121 : (2 < t114.length) = True := eq_true (by omega); (try rw [show ((2 : Int)).toNat = 2 from rfl] at hx121_0); replace p121 := eq_true p121; replace q121 := eq_true q121)))
          go_ret
          exact ⟨te, tg1 HB.out GE110.out⟩
         ·rw [if_neg c10] at H
          subst hr
          exact absurd H (by decide)
        ·rw [if_neg c9] at H
         exact absurd H (by simp)
       ·rw [if_neg c8] at H
        subst hr
        exact absurd H (by decide)
      ·rw [if_neg c7] at H
       exact absurd H (by simp)
     ·rw [if_neg c6] at H
      exact absurd H (by simp)
    ·rw [if_neg c5] at H
     subst hr
     exact absurd H (by decide)
   ·rw [if_neg c4] at H
    exact absurd H (by simp)
  ·rw [if_neg c3] at H
   subst hr
   exact absurd H (by decide)
 ·rw [if_neg c2] at H
  subst hr
  exact absurd H (by decide)

set_option maxRecDepth 100000 in
theorem budwoodlaw16_awake.true_ : budwoodlaw16_awake.f 60 = some true := by kernel_rfl
theorem budwoodlaw16_awake.is_true {k : Nat} {r : Bool} (h : budwoodlaw16_awake.f k = some r) : r = true := by
  have h1 := lift_mono (fun k => budwoodlaw16_awake.mono k) h (Nat.le_max_left k 60)
  have h2 := lift_mono (fun k => budwoodlaw16_awake.mono k) budwoodlaw16_awake.true_ (Nat.le_max_right k 60)
  rw [h1] at h2
  exact Option.some.inj h2
theorem budwoodlaw16_awake.calls (k : Nat) (r : Bool) (w : World) (h : budwoodlaw16_awake.f k = some r) :
    Calls Tryd.prog 22 #[] w fun e w' => e = .returned (.bool r) ∧ Below w.heap.size w w' := budwoodlaw16_awake.calls1 k r (budwoodlaw16_awake.is_true h) w h
theorem awake16_at {k : Nat} (hk : 60 ≤ k) : budwoodlaw16_awake.f k = some true := lift_mono (fun k => budwoodlaw16_awake.mono k) budwoodlaw16_awake.true_ hk
end Go.Proofs.YtiphindialkmnaaDoor.X
end
