/- Texts that the proof rests on, part 13. -/
import Derived.Test.YtiphindialkmnaaDoorMLess12
section
namespace Go.Proofs.YtiphindialkmnaaDoor.X
open Go.RowKit Go.Proofs.YtiphindialkmnaaDoorW.PrintWords Go.Proofs.YtiphindialkmnaaDoorW.PrintLast Go.Proofs.YtiphindialkmnaaDoorW.PrintMore
set_option linter.unusedSimpArgs false
set_option linter.unusedVariables false
theorem less_l (a0 : ByteArray) (l1 l2 : List ByteArray) (l3 l4 : List Int) (l5 : List S43) (hw : ModWf a0 l1 l2 l3 l4 l5) (h : ModOk a0 l1 l2 l3 l4 l5) : ∀ (d i k : Nat), i + d = l5.length → d + 4020 ≤ k → (∀ j, j < i → ((l5.getD j z43).f0 = 0 ∨ (l5.getD j z43).f0 = 1 ∨ (l5.getD j z43).f0 = 4) → (l5.getD j z43).f2 ≠ (l2.length : Int) - 1) → budwoodlaw11_ValidLess.l0 k (l2.length : Int) (i : Int) a0 l1 l2 l3 l4 l5 = some true := by
  have hs2 := hw.s.2.1
  have hs5 := hw.s.2.2.2.2
  intro d
  induction d with
  | zero =>
    intro i k h1 h2 hno
    obtain ⟨k, rfl⟩ : ∃ k', k = k' + 1 := ⟨k - 1, by omega⟩
    simp only [budwoodlaw11_ValidLess.l0]
    rw [if_neg (by omega), awake_at (k := k) (by omega)]
    simp only [Option.bind_some]
    by_cases c : (l2.length : Int) = 0
    · rw [if_pos c]
    · rw [if_neg c, copy_law a0 l1 l2 l3 l4 l5 hw.s.1 hw.s.2.1 hw.s.2.2.1 hw.s.2.2.2.1 hw.s.2.2.2.2, w64 _ (by omega)]
      simp only [Option.bind_some]
      rw [if_pos (by omega), if_pos (by omega)]
      have e : ((l2.length : Int) - 1).toNat = l2.length - 1 := by omega
      rw [e]
      have hk := ok_less h (by omega) (fun r hr => by
        obtain ⟨j, hj, e⟩ := List.getElem_of_mem hr
        have := hno j (by omega)
        rw [List.getD_eq_getElem?_getD, List.getElem?_eq_getElem hj, e] at this
        exact this)
      have hw' : ModWf a0 l1 (l2.take (l2.length - 1)) l3 l4 l5 := ⟨hw.n, hw.e, fun s hs => hw.i s (List.mem_of_mem_take hs), hw.r, hw.s.1, by rw [List.length_take]; omega, hw.s.2.2.1, hw.s.2.2.2.1, hw.s.2.2.2.2⟩
      rw [check_law k (by omega) hw', if_pos (ok_iff.2 hk)]
      simp only [Option.bind_some, if_true]
  | succ d ih =>
    intro i k h1 h2 hno
    obtain ⟨k, rfl⟩ : ∃ k', k = k' + 1 := ⟨k - 1, by omega⟩
    have hr := hw.r _ (getD_mem z43 (show i < l5.length by omega))
    have next : ¬ (((l5.getD i z43).f0 = 0 ∨ (l5.getD i z43).f0 = 1 ∨ (l5.getD i z43).f0 = 4) ∧ (l5.getD i z43).f2 = (l2.length : Int) - 1) → budwoodlaw11_ValidLess.l0 k (l2.length : Int) ((i : Int) + 1) a0 l1 l2 l3 l4 l5 = some true := by
      intro hn
      have := ih (i + 1) k (by omega) (by omega) (fun j hj hk he => by
        by_cases e : j = i
        · subst e; exact hn ⟨hk, he⟩
        · exact hno j (by omega) hk he)
      simpa using this
    simp only [budwoodlaw11_ValidLess.l0]
    rw [if_pos (by omega), if_pos (by omega), rdT_nat, w64 _ (by have := hr.2.2.2.2; omega), w64 _ (by omega), w64 _ (by omega), awake_at (k := k) (by omega)]
    simp only [Option.bind_some]
    by_cases c0 : (l5.getD i z43).f0 = 0
    · rw [if_pos c0]
      by_cases e : (l5.getD i z43).f2 = (l2.length : Int) - 1
      · rw [if_pos e]
      · rw [if_neg e]; exact next (fun h => e h.2)
    rw [if_neg c0]
    by_cases c1 : (l5.getD i z43).f0 = 1
    · rw [if_pos c1]
      by_cases e : (l5.getD i z43).f2 = (l2.length : Int) - 1
      · rw [if_pos e]
      · rw [if_neg e]; exact next (fun h => e h.2)
    rw [if_neg c1]
    by_cases c4 : (l5.getD i z43).f0 = 4
    · rw [if_pos c4]
      by_cases e : (l5.getD i z43).f2 = (l2.length : Int) - 1
      · rw [if_pos e]
      · rw [if_neg e]; exact next (fun h => e h.2)
    rw [if_neg c4]
    exact next (fun h => by omega)
theorem less_law (a0 : ByteArray) (l1 l2 : List ByteArray) (l3 l4 : List Int) (l5 : List S43)
    (hn : a0.size ≤ 9223372036854775807) (he : ∀ s ∈ l1, s.size ≤ 9223372036854775807) (hi : ∀ s ∈ l2, s.size ≤ 9223372036854775807) (hr : ∀ r ∈ l5, wfR r) (h3 : ∀ x ∈ l3, 0 ≤ x ∧ x < 4294967296) (h4 : ∀ x ∈ l4, 0 ≤ x ∧ x < 4294967296) (hl : l1.length ≤ 9223372036854775807) :
    ∃ k, budwoodlaw11_ValidLess.f k a0 l1 l2 l3 l4 l5 = some true := by
  obtain ⟨n, hn5⟩ : ∃ n, 8000 ≤ n := ⟨8000, Nat.le_refl _⟩
  refine ⟨n + 2, ?_⟩
  unfold budwoodlaw11_ValidLess.f
  obtain ⟨s, hs, hsz⟩ := size_law a0 l1 l2 l3 l4 l5 (n + 2) (by omega) hl
  rw [hs]
  simp only [Option.bind_some]
  have hA : budwoodlaw11_ValidLess.j0 (n + 1 + 1) true a0 l1 l2 l3 l4 l5 = some true := by
    simp only [budwoodlaw11_ValidLess.j0, awake_at (k := n + 1) (by omega), Option.bind_some, if_true]
  by_cases hb : s > 2000
  · rw [if_pos hb]; exact hA
  rw [if_neg hb]
  have hlen := hsz (by omega)
  have hw : ModWf a0 l1 l2 l3 l4 l5 := ⟨hn, he, hi, hr, by omega⟩
  rw [check_law (n + 2) (by omega) hw]
  simp only [Option.bind_some]
  by_cases hv : (vModule a0 l1 l2 l3 l4 l5).1 = 0
  case neg => rw [if_neg hv]; exact hA
  rw [if_pos hv]
  have h := ok_iff.1 hv
  show budwoodlaw11_ValidLess.j0 (n + 1 + 1) false a0 l1 l2 l3 l4 l5 = some true
  have hl0 := less_l a0 l1 l2 l3 l4 l5 hw h l5.length 0 n (by omega) (by omega) (fun j hj => by omega)
  have hj1 : budwoodlaw11_ValidLess.j1 (n + 1) a0 l1 l2 l3 l4 l5 = some true := hl0
  simp only [budwoodlaw11_ValidLess.j0, hj1, Bool.false_eq_true, if_false, copy_law a0 l1 l2 l3 l4 l5 (by omega) (by omega) (by omega) (by omega) (by omega), Option.bind_some]
  by_cases c : (l3.length : Int) < 512
  · rw [if_pos c, if_pos (by omega)]
    have hw' : ModWf a0 l1 l2 (l3 ++ [0]) l4 l5 := ⟨hn, he, hi, hr, by omega, by omega, by simp; omega, by omega, by omega⟩
    rw [check_law (n + 1) (by omega) hw', if_pos (ok_iff.2 (ok_halt hr h (by omega)))]
    simp only [Option.bind_some, if_true]
  · rw [if_neg c]
end Go.Proofs.YtiphindialkmnaaDoor.X
end
