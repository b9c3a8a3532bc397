/- Texts that the proof rests on, part 8. -/
import Derived.Lib.Hide
import Derived.Outline
import Derived.WalkSpells
import Derived.Test.YtiphindialkmnaaDoorMOnly7
section
namespace Go.Proofs.YtiphindialkmnaaDoor.X
open Go.RowKit Go.Lib Go.Proofs.YtiphindialkmnaaDoorW.PrintWords Go.Proofs.YtiphindialkmnaaDoorW.PrintLast Go.Proofs.YtiphindialkmnaaDoorW.PrintMore
set_option linter.unusedVariables false
set_option linter.unusedSimpArgs false
set_option maxRecDepth 100000
theorem info9' : (Tryd.prog.info? 9).map (fun i => (i.zero, i.size, i.bytes)) = some (some (.string ⟨#[]⟩), 1, 16) := by kernel_rfl

theorem cell_below {w w' : World} (h : Below w.heap.size w w') {a : Addr} {v : Value} (hc : w.cell? a = some v) : w'.cell? a = some v := by
  have hlt : a.block < w.heap.size := by
    by_cases hb : a.block < w.heap.size
    · exact hb
    · unfold World.cell? at hc
      rw [Array.getElem?_eq_none (by omega)] at hc
      cases hc
  exact (h.cell hlt).trans hc

theorem Grow0.calls (n : Int) (h0 : 0 ≤ n) (h1 : n ≤ 100000) (w : World) :
    Calls Tryd.prog 103 #[.slice none 0 0, .int .i64 n] w fun e w' => ∃ v, e = .returned v ∧ Kd.R Kd.string 9 w' w.heap.size (fun _ => True) v ([] : List ByteArray) ∧ Below w.heap.size w w' := by
  have d1 : decide (n < 0) = false := decide_eq_false (by omega)
  by_cases hn : 0 < n
  · have d2 : decide (0 < n) = true := decide_eq_true hn
    go_enter Tryd.func103, Tryd.ntmps103
    obtain ⟨i0, hi0, _, hsz, _⟩ := info_parts info9'
    have hne : ¬ n.toNat = 0 := by omega
    go_wp2_with (at_builtin; refine Kd.R_append_zeros Kd.string (w0 := w) w.heap.size rfl (.tmp 20) (.tmp 21) 22 3 9 (.string ⟨#[]⟩) 16 rfl Tryd.underlying22 Tryd.underlying3 info9' rfl (by decide) (by omega) (.slice none 0 0) [] (⟨#[]⟩ : ByteArray) n (fun _ => True) rfl rfl ?aZ (fun _ _ => trivial) (Kd.R_nil _ _ _ _ _) h0 (Below.refl _ _) (Nat.le_refl _) ?aL ?_; (case aZ => exact rfl); (case aL => simp; omega); intro v1 w1 ho hb hg hat; obtain ⟨A, c, rfl, hlc, _⟩ := Kd.R_reads ho; have hcut := cut_to (P := Tryd.prog) 22 9 .i64 Tryd.underlying22 hi0 A _ c 0 (by omega) (by omega) hlc; have hr := Aside0.mk (Kd.R_take (m := 0) ho (by omega)); have HB := Aside0.mk hb; clear ho hb hg hat)
    go_ret
    exact ⟨_, rfl, by simpa using hr.out, HB.out⟩
  · have d2 : decide (0 < n) = false := decide_eq_false hn
    go_enter Tryd.func103, Tryd.ntmps103
    go_wp2
    go_ret
    exact ⟨_, rfl, Kd.R_nil _ _ _ _ _, Below.refl _ _⟩

theorem Concat2.calls (ad : Addr) (A1 : Option Addr) (c1 : Nat) (l1 : List ByteArray) (A2 : Option Addr) (c2 : Nat) (l2 : List ByteArray) (w : World)
    (h0 : w.cell? ad = some (.slice A1 l1.length c1)) (h1 : w.cell? { block := ad.block, off := ad.off + 1 } = some (.slice A2 l2.length c2))
    (hr1 : Kd.C Kd.string w A1 l1.length l1) (hr2 : Kd.C Kd.string w A2 l2.length l2) (hl1 : l1.length ≤ 1000) (hl2 : l2.length ≤ 1000) :
    Calls Tryd.prog 75 #[.slice (some ad) 2 2] w fun e w' => ∃ v, e = .returned v ∧ Kd.R Kd.string 9 w' w.heap.size (fun _ => True) v (l1 ++ l2) ∧ Below w.heap.size w w' := by
  have g0 := Aside0.mk h0
  have g1 := Aside0.mk h1
  clear h0 h1
  go_enter Tryd.func75, Tryd.ntmps75
  go_wp2
  go_loop [3, 5, 11] (fun n _ i => ∃ k : Nat, k ≤ 2 ∧ i = .int .i64 k ∧ n = .int .i64 ((if 0 < k then (l1.length : Int) else 0) + (if 1 < k then (l2.length : Int) else 0))) (fun _ _ i => 2 - (RowKit.intOf i).toNat)
  case atStart => exact ⟨0, by omega, rfl, rfl⟩
  case round =>
    obtain ⟨k, hk, rfl, rfl⟩ := hrel
    have h0 := g0.out
    have h1 := g1.out
    have dd : decide (((l1.length : Int) + (l2.length : Int)) < 0) = false := decide_eq_false (by omega)
    have dd1 : decide ((l1.length : Int) < 0) = false := decide_eq_false (by omega)
    obtain rfl | rfl | rfl : k = 0 ∨ k = 1 ∨ k = 2 := by omega
    · go_wp2
      exact ⟨⟨1, by omega, rfl, by simp⟩, by decide⟩
    · go_wp2
      exact ⟨⟨2, by omega, rfl, by simp⟩, by decide⟩
    · go_wp2_with fail
      refine (Grow0.calls ((l1.length : Int) + (l2.length : Int)) (by omega) (by omega) w).mono ?_
      rintro e w1 ⟨v, rfl, hv, hb⟩
      have hv := Aside0.mk hv
      have hb := Aside0.mk hb
      go_wp2
      go_loopw [6, 8, 27] (fun o _ i wr => ∃ k : Nat, k ≤ 2 ∧ i = .int .i64 k ∧ Aside0 (Kd.R Kd.string 9 wr w.heap.size (fun _ => True) o ((if 0 < k then l1 else []) ++ (if 1 < k then l2 else []))) ∧ Aside0 (Below w.heap.size w wr)) (fun _ _ i _ => 2 - (RowKit.intOf i).toNat)
      case atStart => exact ⟨0, by omega, rfl, ⟨by simpa using hv.out⟩, ⟨hb.out⟩⟩
      case round =>
        obtain ⟨k, hk, rfl, HO, HB⟩ := hrel
        have h0 := cell_below HB.out g0.out
        have h1 := cell_below HB.out g1.out
        obtain rfl | rfl | rfl : k = 0 ∨ k = 1 ∨ k = 2 := by omega
        · have HO' := HO.out
          simp only [Nat.lt_irrefl, if_true, if_false, List.append_nil, Nat.not_lt_zero, Nat.lt_add_one, Nat.zero_lt_one] at HO'
          go_wp2_with (at_builtin; refine Kd.R_append_rows Kd.string (w0 := w) w.heap.size rfl (.tmp 31) (.tmp 32) 22 9 (.string ⟨#[]⟩) 16 rfl Tryd.underlying22 info9' rfl (by decide) (by omega) _ [] l1 _ _ _ (fun _ => True) (fun _ => False) rfl rfl ?aO ?aR (fun _ _ h => h) (fun _ h => h.elim) (fun _ _ => trivial) ?aB ?aS ?aL ?_; (case aO => exact HO'); (case aR => exact Kd.C_below hr1 HB.out); (case aB => exact HB.out); (case aS => exact HB.out.size); (case aL => (first | omega | (simp; omega))); intro v1 w2 ho hb hg hat; have ho := Aside0.mk ho; have hb := Aside0.mk hb; clear hg hat)
          exact ⟨⟨1, by omega, rfl, ⟨by simpa using ho.out⟩, hb⟩, by decide⟩
        · have HO' := HO.out
          simp only [Nat.lt_irrefl, if_true, if_false, List.append_nil, Nat.not_lt_zero, Nat.lt_add_one, Nat.zero_lt_one] at HO'
          go_wp2_with (at_builtin; refine Kd.R_append_rows Kd.string (w0 := w) w.heap.size rfl (.tmp 31) (.tmp 32) 22 9 (.string ⟨#[]⟩) 16 rfl Tryd.underlying22 info9' rfl (by decide) (by omega) _ l1 l2 _ _ _ (fun _ => True) (fun _ => False) rfl rfl ?aO ?aR (fun _ _ h => h) (fun _ h => h.elim) (fun _ _ => trivial) ?aB ?aS ?aL ?_; (case aO => exact HO'); (case aR => exact Kd.C_below hr2 HB.out); (case aB => exact HB.out); (case aS => exact HB.out.size); (case aL => (first | omega | (simp; omega))); intro v1 w2 ho hb hg hat; have ho := Aside0.mk ho; have hb := Aside0.mk hb; clear hg hat)
          exact ⟨⟨2, by omega, rfl, ⟨by simpa using ho.out⟩, hb⟩, by decide⟩
        · go_wp2
          go_ret
          exact ⟨_, rfl, by simpa using HO.out, HB.out⟩
end Go.Proofs.YtiphindialkmnaaDoor.X
end
