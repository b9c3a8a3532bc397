/- Texts that the proof rests on, part 12. -/
import Derived.ChangeSlices
import Derived.Deep.Slices
import Derived.ProofKit
import Derived.SliceStrings
import Derived.WideShapes
import Derived.Test.YtiphindialkmnaaDoorMOnly11
section
namespace Go.Proofs.YtiphindialkmnaaDoor.X
open Go.RowKit Go.ChangeShapes Go.WideShapes Go.Deep Go.Proofs.YtiphindialkmnaaDoorW.PrintWords Go.Proofs.YtiphindialkmnaaDoorW.PrintLast Go.Proofs.YtiphindialkmnaaDoorW.PrintMore
set_option linter.unusedSimpArgs false
set_option maxRecDepth 100000
theorem list3 {α : Type} {cs : List α} (h : cs.length = 3) : ∃ c0 c1 c2, cs = [c0, c1, c2] := by
  match cs, h with
  | [c0, c1, c2], _ => exact ⟨c0, c1, c2, rfl⟩
theorem list6 {α : Type} {cs : List α} (h : cs.length = 6) : ∃ c0 c1 c2 c3 c4 c5, cs = [c0, c1, c2, c3, c4, c5] := by
  match cs, h with
  | [c0, c1, c2, c3, c4, c5], _ => exact ⟨c0, c1, c2, c3, c4, c5, rfl⟩
section
variable {H : Type} {enc : TypeId × Value → H} {W : World} {sp : Nat → Bool} {held : Bool}
theorem open_strC {n : Nat} {cs : List Value} {y : DataW H × List MemPlace} (h : DataW.trod enc Tryd.prog W 0 sp held n 22 cs = some y) :
    ∃ A c l, cs = [.slice A l.length c] ∧ Kd.C Kd.string W A l.length l ∧ l.length ≤ c ∧ (∀ s ∈ l, s.size ≤ maxLen) ∧ l.length ≤ maxLen := by
  rcases open_strings Tryd.underlying22 Tryd.underlying9 (by kernel_rfl) h with ⟨rfl, _⟩ | ⟨a, len, cap, ss, rfl, _, hl, hm, hz, _, hcell, hsz⟩
  · exact ⟨none, 0, [], rfl, Kd.C_of_reads (enc := Value.string) (d := ByteArray.empty) ⟨rfl, by decide, fun h => by simp at h⟩, Nat.le_refl _, by simp, by simp⟩
  · have hlen : len ≤ ss.length := by rw [hz]; split <;> omega
    have hl2 : (ss.take len).length = len := by rw [List.length_take]; omega
    refine ⟨some a, cap, ss.take len, by rw [hl2], ?_, by rw [hl2]; exact hl, fun s hs => hsz s (List.mem_of_mem_take hs), by rw [hl2]; omega⟩
    refine Kd.C_of_reads (enc := Value.string) (d := ByteArray.empty) ⟨rfl, by rw [hl2]; unfold maxLen at hm; omega, fun _ => ⟨a, rfl, fun j hj => ?_⟩⟩
    rw [hl2] at hj
    rw [hcell j (by omega)]
    simp [List.getD, List.getElem?_take, hj]
theorem open_intC {n : Nat} {cs : List Value} {y : DataW H × List MemPlace} (h : DataW.trod enc Tryd.prog W 0 sp held n 23 cs = some y) :
    ∃ A c l, cs = [.slice A l.length c] ∧ Kd.C (Kd.int .u32) W A l.length l ∧ l.length ≤ c ∧ (∀ x ∈ l, 0 ≤ x ∧ x < 4294967296) ∧ l.length ≤ maxLen := by
  rcases open_ints Tryd.underlying23 Tryd.underlying44 (by kernel_rfl) h with ⟨rfl, _⟩ | ⟨a, len, cap, ss, rfl, _, hl, hm, hz, _, hcell, hsz⟩
  · exact ⟨none, 0, [], rfl, Kd.C_of_reads (enc := Value.int .u32) (d := (0 : Int)) ⟨rfl, by decide, fun h => by simp at h⟩, Nat.le_refl _, by simp, by simp⟩
  · have hlen : len ≤ ss.length := by rw [hz]; split <;> omega
    have hl2 : (ss.take len).length = len := by rw [List.length_take]; omega
    refine ⟨some a, cap, ss.take len, by rw [hl2], ?_, by rw [hl2]; exact hl, fun s hs => ?_, by rw [hl2]; omega⟩
    · refine Kd.C_of_reads (enc := Value.int .u32) (d := (0 : Int)) ⟨rfl, by rw [hl2]; unfold maxLen at hm; omega, fun _ => ⟨a, rfl, fun j hj => ?_⟩⟩
      rw [hl2] at hj
      rw [hcell j (by omega)]
      simp [List.getD, List.getElem?_take, hj]
    · have := hsz s (List.mem_of_mem_take hs)
      simp [Lit.wf, IntKind.min, IntKind.max, IntKind.signed, IntKind.bits] at this
      omega
def relWf (x : S43) : Prop := 0 ≤ x.f0 ∧ x.f0 ≤ 255 ∧ 0 ≤ x.f1 ∧ x.f1 ≤ 65535 ∧ 0 ≤ x.f2 ∧ x.f2 ≤ 65535
theorem open_relC {n : Nat} {cs : List Value} {y : DataW H × List MemPlace} (h : DataW.trod enc Tryd.prog W 0 sp held n 24 cs = some y) :
    ∃ A c l, cs = [.slice A l.length c] ∧ Kd.C k43 W A l.length l ∧ l.length ≤ c ∧ (∀ x ∈ l, relWf x) ∧ l.length ≤ maxLen := by
  rcases open_slice Tryd.underlying24 h with ⟨rfl, _⟩ | ⟨a, len, cap, m, n', D, Pl, rfl, _, hl, hm, hmm, _, hx⟩
  · refine ⟨none, 0, [], rfl, ⟨rfl, by decide, fun h => by simp at h⟩, Nat.le_refl _, by simp, by simp⟩
  · have hlm : len ≤ m := by rw [hmm]; split <;> omega
    have hce : Tryd.prog.cellsOf 43 = 3 := by kernel_rfl
    have each : ∀ i, i < len → ∃ x : S43, relWf x ∧ W.cell? (a.add (i * 3)) = some (.int .u8 x.f0) ∧ W.cell? (a.add (i * 3 + 1)) = some (.int .u16 x.f1) ∧ W.cell? (a.add (i * 3 + 2)) = some (.int .u16 x.f2) := by
      intro i hi
      obtain ⟨cs', h1, h2⟩ := hx i (by omega)
      rw [hce] at h1
      obtain ⟨_, hlen, hcell⟩ := World.cells?_some h1
      obtain ⟨xs, k, hk, _, _, hxl, hf⟩ := DataW.trod_struct Tryd.underlying43 h2
      obtain ⟨y0, y1, y2, rfl⟩ := list3 (hxl.trans rfl)
      obtain ⟨v0, v1, v2, rfl⟩ := list3 hlen
      have g0 := hf 0 _ rfl
      have g1 := hf 1 _ rfl
      have g2 := hf 2 _ rfl
      have c40 : Tryd.prog.cellsOf 40 = 1 := by kernel_rfl
      have c41 : Tryd.prog.cellsOf 41 = 1 := by kernel_rfl
      simp [c40, c41] at g0 g1 g2
      obtain ⟨i0, e0, _, w0⟩ := DataW.trod_int Tryd.underlying40 g0
      obtain ⟨i1, e1, _, w1⟩ := DataW.trod_int Tryd.underlying41 g1
      obtain ⟨i2, e2, _, w2⟩ := DataW.trod_int Tryd.underlying41 g2
      simp at e0 e1 e2
      subst e0 e1 e2
      simp [Lit.wf, IntKind.min, IntKind.max, IntKind.signed, IntKind.bits] at w0 w1 w2
      have q0 := hcell 0 (by omega)
      have q1 := hcell 1 (by omega)
      have q2 := hcell 2 (by omega)
      rw [Deep.add_add] at q0 q1 q2
      exact ⟨⟨i0, i1, i2⟩, ⟨w0.1, (by show i0 ≤ 255; omega), w1.1, (by show i1 ≤ 65535; omega), w2.1, (by show i2 ≤ 65535; omega)⟩, by simpa using q0, by simpa using q1, by simpa using q2⟩
    have : Inhabited S43 := ⟨z43⟩
    obtain ⟨f, hf⟩ := choose_lt each
    have hl2 : ((List.range len).map f).length = len := by simp
    refine ⟨some a, cap, (List.range len).map f, by rw [hl2], ⟨rfl, by rw [hl2]; unfold maxLen at hm; omega, fun _ => ⟨a, rfl, fun j p hj => ?_⟩⟩, by rw [hl2]; exact hl, ?_, by rw [hl2]; omega⟩
    · have hj2 : j < len := by
        have := (List.getElem?_eq_some_iff.1 hj).1
        simpa using this
      have hp : p = f j := by
        rw [List.getElem?_map, List.getElem?_range hj2] at hj
        simpa using hj.symm
      subst hp
      obtain ⟨_, q0, q1, q2⟩ := hf j hj2
      refine ⟨_, rfl, k43_mk W (f j), fun i u hu => ?_⟩
      match i, hu with
      | 0, hu => simp at hu; subst hu; (show W.cell? (a.add (j * 3 + 0)) = _; simpa using q0)
      | 1, hu => simp at hu; subst hu; (show W.cell? (a.add (j * 3 + 1)) = _; simpa using q1)
      | 2, hu => simp at hu; subst hu; (show W.cell? (a.add (j * 3 + 2)) = _; simpa using q2)
    · intro x hx
      obtain ⟨i, hi, rfl⟩ := List.mem_map.1 hx
      exact (hf i (List.mem_range.1 hi)).1
theorem array6 {α : Type} {cs : Array α} (h : cs.size = 6) : ∃ c0 c1 c2 c3 c4 c5, cs = #[c0, c1, c2, c3, c4, c5] := by
  obtain ⟨l⟩ := cs
  match l, h with
  | [c0, c1, c2, c3, c4, c5], _ => exact ⟨c0, c1, c2, c3, c4, c5, rfl⟩
theorem open_module {r : Reach} {b0 : Nat} {v : Value} {d : DataW H} {p : List MemPlace} (hv : Value.okWide Tryd.prog W r b0 26 v) (h : DataW.Trod enc Tryd.prog W 0 sp held 26 v d p) :
    ∃ (a0 : ByteArray) (A1 : Option Addr) (c1 : Nat) (l1 : List ByteArray) (A2 : Option Addr) (c2 : Nat) (l2 : List ByteArray) (A3 : Option Addr) (c3 : Nat) (l3 : List Int) (A4 : Option Addr) (c4 : Nat) (l4 : List Int) (A5 : Option Addr) (c5 : Nat) (l5 : List S43),
      v = .agg #[.string a0, .slice A1 l1.length c1, .slice A2 l2.length c2, .slice A3 l3.length c3, .slice A4 l4.length c4, .slice A5 l5.length c5] ∧
      (Kd.C Kd.string W A1 l1.length l1 ∧ l1.length ≤ c1 ∧ Kd.C Kd.string W A2 l2.length l2 ∧ l2.length ≤ c2 ∧ Kd.C (Kd.int .u32) W A3 l3.length l3 ∧ l3.length ≤ c3 ∧ Kd.C (Kd.int .u32) W A4 l4.length l4 ∧ l4.length ≤ c4 ∧ Kd.C k43 W A5 l5.length l5 ∧ l5.length ≤ c5) ∧
      (a0.size ≤ maxLen ∧ (∀ s ∈ l1, s.size ≤ maxLen) ∧ (∀ s ∈ l2, s.size ≤ maxLen) ∧ (∀ x ∈ l3, 0 ≤ x ∧ x < 4294967296) ∧ (∀ x ∈ l4, 0 ≤ x ∧ x < 4294967296) ∧ (∀ x ∈ l5, relWf x)) ∧
      (l1.length ≤ maxLen ∧ l2.length ≤ maxLen ∧ l3.length ≤ maxLen ∧ l4.length ≤ maxLen ∧ l5.length ≤ maxLen) := by
  obtain ⟨cs, rfl, hsz⟩ := okWide_struct Tryd.underlying26 hv
  obtain ⟨x0, x1, x2, x3, x4, x5, rfl⟩ := array6 (hsz.trans (by kernel_rfl))
  obtain ⟨fuel, hf⟩ := h
  obtain ⟨xs, k, hk, _, _, hxl, hg⟩ := DataW.trod_struct Tryd.underlying26 hf
  have c9 : Tryd.prog.cellsOf 9 = 1 := by kernel_rfl
  have c22 : Tryd.prog.cellsOf 22 = 1 := by kernel_rfl
  have c23 : Tryd.prog.cellsOf 23 = 1 := by kernel_rfl
  have c24 : Tryd.prog.cellsOf 24 = 1 := by kernel_rfl
  obtain ⟨y0, y1, y2, y3, y4, y5, rfl⟩ := list6 (hxl.trans rfl)
  have g0 := hg 0 _ rfl
  have g1 := hg 1 _ rfl
  have g2 := hg 2 _ rfl
  have g3 := hg 3 _ rfl
  have g4 := hg 4 _ rfl
  have g5 := hg 5 _ rfl
  simp [c9, c22, c23, c24, Value.cells] at g0 g1 g2 g3 g4 g5
  obtain ⟨a0, e0, _, w0⟩ := DataW.trod_string Tryd.underlying9 g0
  obtain ⟨A1, cc1, l1, e1, C1, n1, w1, m1⟩ := open_strC g1
  obtain ⟨A2, cc2, l2, e2, C2, n2, w2, m2⟩ := open_strC g2
  obtain ⟨A3, cc3, l3, e3, C3, n3, w3, m3⟩ := open_intC g3
  obtain ⟨A4, cc4, l4, e4, C4, n4, w4, m4⟩ := open_intC g4
  obtain ⟨A5, cc5, l5, e5, C5, n5, w5, m5⟩ := open_relC g5
  simp at e0 e1 e2 e3 e4 e5
  subst e0 e1 e2 e3 e4 e5
  exact ⟨a0, A1, cc1, l1, A2, cc2, l2, A3, cc3, l3, A4, cc4, l4, A5, cc5, l5, rfl, ⟨C1, n1, C2, n2, C3, n3, C4, n4, C5, n5⟩, ⟨w0, w1, w2, w3, w4, w5⟩, ⟨m1, m2, m3, m4, m5⟩⟩
end
end Go.Proofs.YtiphindialkmnaaDoor.X
end
section
namespace Go.Proofs.YtiphindialkmnaaDoor.X
open Go.RowKit Go.ChangeShapes Go.WideShapes Go.Deep Go.Proofs.YtiphindialkmnaaDoorW.PrintWords Go.Proofs.YtiphindialkmnaaDoorW.PrintLast Go.Proofs.YtiphindialkmnaaDoorW.PrintMore
set_option linter.unusedSimpArgs false
set_option maxRecDepth 100000
section
variable {H : Type} {enc : TypeId × Value → H} {W : World} {sp : Nat → Bool} {held : Bool}
theorem open_u16C {n : Nat} {cs : List Value} {y : DataW H × List MemPlace} (h : DataW.trod enc Tryd.prog W 0 sp held n 71 cs = some y) :
    ∃ A c l, cs = [.slice A l.length c] ∧ Kd.C (Kd.int .u16) W A l.length l ∧ l.length ≤ c ∧ (∀ x ∈ l, 0 ≤ x ∧ x ≤ 65535) ∧ l.length ≤ maxLen := by
  rcases open_ints Tryd.underlying71 Tryd.underlying41 (by kernel_rfl) h with ⟨rfl, _⟩ | ⟨a, len, cap, ss, rfl, _, hl, hm, hz, _, hcell, hsz⟩
  · exact ⟨none, 0, [], rfl, Kd.C_of_reads (enc := Value.int .u16) (d := (0 : Int)) ⟨rfl, by decide, fun h => by simp at h⟩, Nat.le_refl _, by simp, by simp⟩
  · have hlen : len ≤ ss.length := by rw [hz]; split <;> omega
    have hl2 : (ss.take len).length = len := by rw [List.length_take]; omega
    refine ⟨some a, cap, ss.take len, by rw [hl2], ?_, by rw [hl2]; exact hl, fun s hs => ?_, by rw [hl2]; omega⟩
    · refine Kd.C_of_reads (enc := Value.int .u16) (d := (0 : Int)) ⟨rfl, by rw [hl2]; unfold maxLen at hm; omega, fun _ => ⟨a, rfl, fun j hj => ?_⟩⟩
      rw [hl2] at hj
      rw [hcell j (by omega)]
      simp [List.getD, List.getElem?_take, hj]
    · have := hsz s (List.mem_of_mem_take hs)
      simp [Lit.wf, IntKind.min, IntKind.max, IntKind.signed, IntKind.bits] at this
      omega
theorem open_u16 {r : Reach} {b0 : Nat} {v : Value} {d : DataW H} {p : List MemPlace} (hv : Value.okWide Tryd.prog W r b0 71 v) (h : DataW.Trod enc Tryd.prog W 0 sp held 71 v d p) :
    ∃ A c l, v = .slice A l.length c ∧ Kd.C (Kd.int .u16) W A l.length l ∧ l.length ≤ c ∧ (∀ x ∈ l, 0 ≤ x ∧ x ≤ 65535) ∧ l.length ≤ maxLen := by
  obtain ⟨a0, len, cap, rfl⟩ := okWide_slice Tryd.underlying71 hv
  obtain ⟨fuel, hf⟩ := h
  obtain ⟨A, c, l, e, h1, h2, h3, h4⟩ := open_u16C hf
  exact ⟨A, c, l, by simpa [Value.cells] using e, h1, h2, h3, h4⟩
end
end Go.Proofs.YtiphindialkmnaaDoor.X
end
