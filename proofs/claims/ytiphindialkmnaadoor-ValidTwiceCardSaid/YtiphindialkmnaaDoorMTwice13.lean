/- Texts that the proof rests on, part 13. -/
import Derived.Test.YtiphindialkmnaaDoorMTwice12
section
namespace Go.Proofs.YtiphindialkmnaaDoor.X
open Go.RowKit Go.Proofs.YtiphindialkmnaaDoorW.PrintWords Go.Proofs.YtiphindialkmnaaDoorW.PrintLast Go.Proofs.YtiphindialkmnaaDoorW.PrintMore
set_option linter.unusedSimpArgs false
set_option linter.unusedVariables false
theorem getD_append_lt {α : Type} (d : α) {l m : List α} {i : Nat} (h : i < l.length) : (l ++ m).getD i d = l.getD i d := by
  rw [List.getD_eq_getElem?_getD, List.getD_eq_getElem?_getD, List.getElem?_append_left h]
theorem getD_append_at {α : Type} (d : α) (l : List α) (x : α) : (l ++ [x]).getD l.length d = x := by
  rw [List.getD_eq_getElem?_getD, List.getElem?_append_right (Nat.le_refl _)]
  simp
theorem not_none {p : Nat → Bool} {n i : Nat} (hi : i < n) (hp : p i = true) : first p n 0 ≠ none := by
  intro h
  have := first_none.1 h i (Nat.zero_le _) (by omega)
  rw [hp] at this
  cases this
theorem names_ok {l : List ByteArray} {n : Nat} (hn : n = l.length) : first (badName l) n 0 = none ↔ ∀ s ∈ l, nameE s = 0 := by
  rw [first_none]
  constructor
  · intro h s hs
    obtain ⟨j, hj, e⟩ := List.getElem_of_mem hs
    have h1 := h j (Nat.zero_le _) (by omega)
    have e2 : l.getD j ByteArray.empty = s := by rw [List.getD_eq_getElem?_getD, List.getElem?_eq_getElem hj, e]; rfl
    unfold badName at h1
    rw [e2, decide_eq_false_iff_not, Decidable.not_not] at h1
    exact h1
  · intro h j _ hj
    unfold badName
    rw [decide_eq_false_iff_not, Decidable.not_not]
    exact h _ (getD_mem _ (by omega))
/-- a text that stands ahead, once more -/
theorem dup_append {l : List ByteArray} (h : 0 < l.length) : first (dup (l ++ [l.getD 0 ByteArray.empty])) (l ++ [l.getD 0 ByteArray.empty]).length 0 ≠ none := by
  refine not_none (i := l.length) (by simp) ?_
  unfold dup
  rw [decide_eq_true_iff, getD_append_at, List.take_append_of_le_length (Nat.le_refl _), List.take_length]
  exact getD_mem _ h
theorem place_append {l3 l4 : List Int} {l : List S43} (h : 0 < l.length) : first (badPlace l3 l4 (l ++ [l.getD 0 z43])) (l ++ [l.getD 0 z43]).length 0 ≠ none := by
  refine not_none (i := l.length) (by simp) ?_
  unfold badPlace
  rw [Bool.or_eq_true]
  refine .inl (decide_eq_true ⟨0, h, ?_⟩)
  rw [getD_append_at, getD_append_lt z43 h]
theorem twice_fault {a0 : ByteArray} {l1 l2 : List ByteArray} {l3 l4 : List Int} {l5 : List S43} (hv : (vModule a0 l1 l2 l3 l4 l5).1 = 0) (c1 c2 c3 : Bool) (h1 : c1 = true → 0 < l1.length) (h2 : c2 = true → 0 < l2.length) (h3 : c3 = true → 0 < l5.length) :
    (c1 = true ∨ c2 = true ∨ c3 = true) → ((vModule a0 (if c1 = true then l1 ++ [l1.getD 0 ByteArray.empty] else l1) (if c2 = true then l2 ++ [l2.getD 0 ByteArray.empty] else l2) l3 l4 (if c3 = true then l5 ++ [l5.getD 0 z43] else l5)).1 = 1 ∨ (vModule a0 (if c1 = true then l1 ++ [l1.getD 0 ByteArray.empty] else l1) (if c2 = true then l2 ++ [l2.getD 0 ByteArray.empty] else l2) l3 l4 (if c3 = true then l5 ++ [l5.getD 0 z43] else l5)).1 = 3 ∨ (vModule a0 (if c1 = true then l1 ++ [l1.getD 0 ByteArray.empty] else l1) (if c2 = true then l2 ++ [l2.getD 0 ByteArray.empty] else l2) l3 l4 (if c3 = true then l5 ++ [l5.getD 0 z43] else l5)).1 = 6) := by
  intro hc
  obtain ⟨ho, ht, hw, hr⟩ := module_ok.1 hv
  obtain ⟨t1, t2, t3, t4⟩ := texts_ok.1 ht
  replace t1 := (names_ok (l := a0 :: l1) (n := l1.length + 1) rfl).1 t1
  replace t2 := (names_ok (l := l2) rfl).1 t2
  generalize e1 : (if c1 = true then l1 ++ [l1.getD 0 ByteArray.empty] else l1) = m1
  generalize e2 : (if c2 = true then l2 ++ [l2.getD 0 ByteArray.empty] else l2) = m2
  generalize e5 : (if c3 = true then l5 ++ [l5.getD 0 z43] else l5) = m5
  have n1 : ∀ s ∈ a0 :: m1, nameE s = 0 := by
    intro s hs
    rw [← e1] at hs
    split at hs
    · rename_i c
      refine t1 s ?_
      simp only [List.mem_cons, List.mem_append, List.not_mem_nil, or_false] at hs ⊢
      rcases hs with rfl | hs | rfl
      · exact .inl rfl
      · exact .inr hs
      · exact .inr (getD_mem _ (h1 c))
    · exact t1 s hs
  have n2 : ∀ s ∈ m2, nameE s = 0 := by
    intro s hs
    rw [← e2] at hs
    split at hs
    · rename_i c
      refine t2 s ?_
      simp only [List.mem_append, List.mem_singleton] at hs
      rcases hs with hs | rfl
      · exact hs
      · exact getD_mem _ (h2 c)
    · exact t2 s hs
  unfold vModule
  by_cases ho' : objOk a0 m1 m2 l3 l4 m5
  case neg => rw [if_neg ho']; exact .inl rfl
  rw [if_pos ho']
  unfold vTexts
  rw [(names_ok (l := a0 :: m1) (n := m1.length + 1) rfl).2 n1]
  simp only
  rw [(names_ok (l := m2) rfl).2 n2]
  simp only
  cases hd1 : first (dup m1) m1.length 0 with
  | some i => exact .inr (.inl (by simp))
  | none =>
    simp only
    have c1f : c1 = false := by
      cases c1 with
      | false => rfl
      | true => simp only [if_true] at e1; subst e1; exact absurd hd1 (dup_append (h1 rfl))
    cases hd2 : first (dup m2) m2.length 0 with
    | some i => exact .inr (.inl (by simp))
    | none =>
      simp only [if_true]
      have c2f : c2 = false := by
        cases c2 with
        | false => rfl
        | true => simp only [if_true] at e2; subst e2; exact absurd hd2 (dup_append (h2 rfl))
      have c3t : c3 = true := by rcases hc with h | h | h <;> simp_all
      subst c1f
      simp only [Bool.false_eq_true, if_false] at e1
      subst e1
      rw [if_pos hw]
      unfold vRelocs
      cases hp : first (badPlace l3 l4 m5) m5.length 0 with
      | some i => exact .inr (.inr rfl)
      | none =>
        subst c3t
        simp only [if_true] at e5
        subst e5
        exact absurd hp (place_append (h3 rfl))
theorem twice_j6 (n : Nat) (hn : 5000 ≤ n) {a0 : ByteArray} {l1 l2 : List ByteArray} {l3 l4 : List Int} {l5 : List S43} (hw : ModWf a0 l1 l2 l3 l4 l5) (hs : l1.length + l2.length + l3.length + l4.length + l5.length ≤ 2000) (hv : (vModule a0 l1 l2 l3 l4 l5).1 = 0) (c1 c2 c3 : Bool) (h1 : c1 = true → 0 < l1.length) (h2 : c2 = true → 0 < l2.length) (h3 : c3 = true → 0 < l5.length) :
    budwoodlaw11_ValidTwice.j6 (n + 1) a0 l1 l2 l3 l4 l5 a0 (if c1 = true then l1 ++ [l1.getD 0 ByteArray.empty] else l1) (if c2 = true then l2 ++ [l2.getD 0 ByteArray.empty] else l2) l3 l4 (if c3 = true then l5 ++ [l5.getD 0 z43] else l5) = some true := by
  have hf := twice_fault hv c1 c2 c3 h1 h2 h3
  generalize e1 : (if c1 = true then l1 ++ [l1.getD 0 ByteArray.empty] else l1) = m1 at hf ⊢
  generalize e2 : (if c2 = true then l2 ++ [l2.getD 0 ByteArray.empty] else l2) = m2 at hf ⊢
  generalize e5 : (if c3 = true then l5 ++ [l5.getD 0 z43] else l5) = m5 at hf ⊢
  have b1 : m1.length ≤ l1.length + 1 ∧ (m1 = l1 ↔ c1 = false) ∧ ∀ s ∈ m1, s ∈ l1 := by
    rw [← e1]
    cases c1 with
    | false => simp
    | true =>
      refine ⟨by simp, by simp, fun s hs => ?_⟩
      simp only [if_true, List.mem_append, List.mem_singleton] at hs
      rcases hs with hs | rfl
      · exact hs
      · exact getD_mem _ (h1 rfl)
  have b2 : m2.length ≤ l2.length + 1 ∧ (m2 = l2 ↔ c2 = false) ∧ ∀ s ∈ m2, s ∈ l2 := by
    rw [← e2]
    cases c2 with
    | false => simp
    | true =>
      refine ⟨by simp, by simp, fun s hs => ?_⟩
      simp only [if_true, List.mem_append, List.mem_singleton] at hs
      rcases hs with hs | rfl
      · exact hs
      · exact getD_mem _ (h2 rfl)
  have b5 : m5.length ≤ l5.length + 1 ∧ (m5 = l5 ↔ c3 = false) ∧ ∀ s ∈ m5, s ∈ l5 := by
    rw [← e5]
    cases c3 with
    | false => simp
    | true =>
      refine ⟨by simp, by simp, fun s hs => ?_⟩
      simp only [if_true, List.mem_append, List.mem_singleton] at hs
      rcases hs with hs | rfl
      · exact hs
      · exact getD_mem _ (h3 rfl)
  have hw' : ModWf a0 m1 m2 l3 l4 m5 := ⟨hw.n, fun s hs => hw.e s (b1.2.2 s hs), fun s hs => hw.i s (b2.2.2 s hs), fun s hs => hw.r s (b5.2.2 s hs), by omega⟩
  obtain ⟨b, hb1, hb2⟩ := same_mod a0 m1 m2 l3 l4 m5 a0 l1 l2 l3 l4 l5 (by omega) (by omega) (by omega) (by omega) (by omega) n (by omega)
  simp only [budwoodlaw11_ValidTwice.j6, module_law n (by omega) hw', check_law n (by omega) hw', hb1, awake_at (k := n) (by omega), Option.bind_some]
  cases b with
  | true =>
    obtain ⟨_, r1, r2, _, _, r5⟩ := hb2.1 rfl
    rw [r1, r2, r5]
    simp only [if_true]
    rw [if_pos hv]
  | false =>
    have hc : c1 = true ∨ c2 = true ∨ c3 = true := by
      cases c1 with
      | true => exact .inl rfl
      | false =>
        cases c2 with
        | true => exact .inr (.inl rfl)
        | false =>
          cases c3 with
          | true => exact .inr (.inr rfl)
          | false => exact absurd (hb2.2 ⟨rfl, b1.2.1.2 rfl, b2.2.1.2 rfl, rfl, rfl, b5.2.1.2 rfl⟩) (by decide)
    rcases hf hc with h | h | h <;> simp [h]
theorem twice_law (a0 : ByteArray) (l1 l2 : List ByteArray) (l3 l4 : List Int) (l5 : List S43) (x : Int)
    (hn : a0.size ≤ 9223372036854775807) (he : ∀ s ∈ l1, s.size ≤ 9223372036854775807) (hi : ∀ s ∈ l2, s.size ≤ 9223372036854775807) (hr : ∀ r ∈ l5, wfR r) (hl : l1.length ≤ 9223372036854775807) :
    ∃ k, budwoodlaw11_ValidTwice.f k a0 l1 l2 l3 l4 l5 x = some true := by
  obtain ⟨n, hn5⟩ : ∃ n, 5000 ≤ n := ⟨5000, Nat.le_refl _⟩
  refine ⟨n + 8, ?_⟩
  unfold budwoodlaw11_ValidTwice.f
  obtain ⟨s, hs, hsz⟩ := size_law a0 l1 l2 l3 l4 l5 (n + 8) (by omega) hl
  rw [hs]
  simp only [Option.bind_some]
  have hA : ∀ y, budwoodlaw11_ValidTwice.j0 (n + 7 + 1) y true a0 l1 l2 l3 l4 l5 = some true := by
    intro y
    simp only [budwoodlaw11_ValidTwice.j0, awake_at (k := n + 7) (by omega), Option.bind_some, if_true]
  by_cases hb : s > 2000
  · rw [if_pos hb]; exact hA x
  rw [if_neg hb]
  have hlen := hsz (by omega)
  have hw : ModWf a0 l1 l2 l3 l4 l5 := ⟨hn, he, hi, hr, by omega⟩
  rw [check_law (n + 8) (by omega) hw]
  simp only [Option.bind_some]
  by_cases hv : (vModule a0 l1 l2 l3 l4 l5).1 = 0
  case neg => rw [if_neg hv]; exact hA x
  rw [if_pos hv]
  show budwoodlaw11_ValidTwice.j0 (n + 7 + 1) x false a0 l1 l2 l3 l4 l5 = some true
  simp only [budwoodlaw11_ValidTwice.j0, Bool.false_eq_true, if_false, copy_law a0 l1 l2 l3 l4 l5 (by omega) (by omega) (by omega) (by omega) (by omega), Option.bind_some]
  have key := fun c1 c2 c3 h1 h2 h3 => twice_j6 (n + 1) (by omega) hw hlen hv c1 c2 c3 h1 h2 h3
  have j4 : ∀ c1 c2, (c1 = true → 0 < l1.length) → (c2 = true → 0 < l2.length) → budwoodlaw11_ValidTwice.j4 (n + 3 + 1) x a0 l1 l2 l3 l4 l5 a0 (if c1 = true then l1 ++ [l1.getD 0 ByteArray.empty] else l1) (if c2 = true then l2 ++ [l2.getD 0 ByteArray.empty] else l2) l3 l4 l5 = some true := by
    intro c1 c2 h1 h2
    have k0 := key c1 c2 false h1 h2 (by simp)
    simp only [Bool.false_eq_true, if_false] at k0
    simp only [budwoodlaw11_ValidTwice.j4, budwoodlaw11_ValidTwice.j5, Bool.false_eq_true, if_false]
    by_cases c : (l5.length : Int) > 0
    · rw [if_pos c]
      by_cases c3 : (Int.tmod x 3 == 2) = true
      · rw [if_pos c3, if_pos (by omega), if_pos (by omega)]
        have k1 := key c1 c2 true h1 h2 (fun _ => by omega)
        simp only [if_true] at k1
        exact k1
      · rw [if_neg c3]; exact k0
    · rw [if_neg c]; exact k0
  have j2 : ∀ c1, (c1 = true → 0 < l1.length) → budwoodlaw11_ValidTwice.j2 (n + 5 + 1) x a0 l1 l2 l3 l4 l5 a0 (if c1 = true then l1 ++ [l1.getD 0 ByteArray.empty] else l1) l2 l3 l4 l5 = some true := by
    intro c1 h1
    have k0 := j4 c1 false h1 (by simp)
    simp only [Bool.false_eq_true, if_false] at k0
    simp only [budwoodlaw11_ValidTwice.j2, budwoodlaw11_ValidTwice.j3, Bool.false_eq_true, if_false]
    by_cases c : (l2.length : Int) > 0
    · rw [if_pos c]
      by_cases c3 : (Int.tmod x 3 == 1) = true
      · rw [if_pos c3, if_pos (by omega), if_pos (by omega)]
        have k1 := j4 c1 true h1 (fun _ => by omega)
        simp only [if_true] at k1
        exact k1
      · rw [if_neg c3]; exact k0
    · rw [if_neg c]; exact k0
  have k0 := j2 false (by simp)
  simp only [Bool.false_eq_true, if_false] at k0
  simp only [budwoodlaw11_ValidTwice.j1, Bool.false_eq_true, if_false]
  by_cases c : (l1.length : Int) > 0
  · rw [if_pos c]
    by_cases c3 : (Int.tmod x 3 == 0) = true
    · rw [if_pos c3, if_pos (by omega), if_pos (by omega)]
      have k1 := j2 true (fun _ => by omega)
      simp only [if_true] at k1
      exact k1
    · rw [if_neg c3]; exact k0
  · rw [if_neg c]; exact k0
end Go.Proofs.YtiphindialkmnaaDoor.X
end
