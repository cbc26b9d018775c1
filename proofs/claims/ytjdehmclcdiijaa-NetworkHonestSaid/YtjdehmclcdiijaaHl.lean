/- What the heap is: a list in the order sent. Plain law: no program in sight. -/
import Derived.Test.YtjdehmclcdiijaaNt
set_option linter.unusedVariables false
namespace Go.Proofs.Ytjdehmclcdiijaa.Hp

def le (x y : D) : Prop := less y x = false
theorem le_iff (x y : D) : le x y ↔ (x.due < y.due ∨ (x.due = y.due ∧ x.num ≤ y.num)) := by
  unfold le less
  simp only [Bool.or_eq_false_iff, decide_eq_false_iff_not, Bool.and_eq_false_iff]
  omega
theorem le_trans' {x y z : D} (h : le x y) (k : le y z) : le x z := by rw [le_iff] at *; omega
theorem le_of_less {x y : D} (h : less x y = true) : le x y := by
  rw [le_iff]
  unfold less at h
  simp only [Bool.or_eq_true, decide_eq_true_eq, Bool.and_eq_true] at h
  omega
theorem swp_at (l : List D) (i k m : Nat) (hi : i < l.length) (hk : k < l.length) : (swp l i k).getD m d0 = if m = k then l.getD i d0 else if m = i then l.getD k d0 else l.getD m d0 := by
  unfold swp
  simp only [List.getD_eq_getElem?_getD, List.getElem?_set, List.length_set]
  by_cases h1 : k = m
  · subst h1; simp [hk]
  · by_cases h2 : i = m
    · subst h2; simp [h1, hi, Ne.symm h1]
    · simp [h1, h2, Ne.symm h1, Ne.symm h2]
theorem getD_get (l : List D) (i : Nat) (h : i < l.length) : l.getD i d0 = l[i] := by simp [List.getD_eq_getElem?_getD, h]
theorem swp_perm (l : List D) (i k : Nat) (hi : i < l.length) (hk : k < l.length) : (swp l i k).Perm l := by
  have := Array.swap_perm (xs := l.toArray) (i := i) (j := k) (by simpa using hi) (by simpa using hk)
  rw [Array.perm_iff_toList_perm] at this
  simp only [Array.toList_swap] at this
  unfold swp
  rw [getD_get _ _ hk, getD_get _ _ hi]
  simpa using this

def IsHeap (n : Nat) (l : List D) : Prop := ∀ i, 0 < i → i < n → le (l.getD ((i - 1) / 2) d0) (l.getD i d0)

theorem hup_heap (j : Nat) : ∀ (l : List D), j < l.length → (∀ i, 0 < i → i < l.length → i ≠ j → le (l.getD ((i - 1) / 2) d0) (l.getD i d0)) →
    (∀ i, 0 < i → i < l.length → (i - 1) / 2 = j → 0 < j → le (l.getD ((j - 1) / 2) d0) (l.getD i d0)) → IsHeap l.length (hup l j) ∧ (hup l j).Perm l := by
  induction j using Nat.strongRecOn with
  | ind j ih =>
    intro l hj h1 h2
    by_cases hs : j = 0 ∨ less (l.getD j d0) (l.getD ((j - 1) / 2) d0) = false
    · rw [hup_stop hs]
      refine ⟨fun i hi hl => ?_, List.Perm.refl _⟩
      by_cases e : i = j
      · subst e
        rcases hs with hs | hs
        · omega
        · exact hs
      · exact h1 i hi hl e
    · have hj0 : j ≠ 0 := fun e => hs (Or.inl e)
      have hlt : less (l.getD j d0) (l.getD ((j - 1) / 2) d0) = true := by
        cases hh : less (l.getD j d0) (l.getD ((j - 1) / 2) d0)
        · exact absurd (Or.inr hh) hs
        · rfl
      rw [hup_go hj0 hlt]
      have hpl : (j - 1) / 2 < l.length := by omega
      have hjp := le_of_less hlt
      have key := ih ((j - 1) / 2) (by omega) (swp l ((j - 1) / 2) j) (by rw [swp_len]; omega) ?_ ?_
      · rw [swp_len] at key
        exact ⟨key.1, key.2.trans (swp_perm l _ _ hpl hj)⟩
      · intro i hi hl hne
        rw [swp_len] at hl
        rw [swp_at _ _ _ _ hpl hj, swp_at _ _ _ _ hpl hj]
        by_cases e1 : i = j
        · subst e1
          rw [if_neg (by omega), if_pos rfl, if_pos rfl]
          exact hjp
        · rw [if_neg e1, if_neg hne]
          by_cases e2 : (i - 1) / 2 = j
          · rw [if_pos e2]
            exact h2 i hi hl e2 (by omega)
          · rw [if_neg e2]
            by_cases e3 : (i - 1) / 2 = (j - 1) / 2
            · rw [if_pos e3]
              have := h1 i hi hl e1
              rw [e3] at this
              exact le_trans' hjp this
            · rw [if_neg e3]
              exact h1 i hi hl e1
      · intro i hi hl hpe hp0
        rw [swp_len] at hl
        rw [swp_at _ _ _ _ hpl hj, swp_at _ _ _ _ hpl hj]
        rw [if_neg (by omega : ¬ ((j - 1) / 2 - 1) / 2 = j), if_neg (by omega : ¬ ((j - 1) / 2 - 1) / 2 = (j - 1) / 2)]
        have hpp := h1 ((j - 1) / 2) hp0 hpl (by omega)
        by_cases e1 : i = j
        · rw [if_pos e1]; exact hpp
        · rw [if_neg e1, if_neg (by omega)]
          have := h1 i hi hl e1
          rw [hpe] at this
          exact le_trans' hpp this

theorem hpush_heap {l : List D} (h : IsHeap l.length l) (d : D) : IsHeap (hpush l d).length (hpush l d) ∧ (hpush l d).Perm (l ++ [d]) := by
  have hat : ∀ i, i < l.length → (l ++ [d]).getD i d0 = l.getD i d0 := fun i hi => by simp [List.getD_eq_getElem?_getD, List.getElem?_append_left hi]
  have := hup_heap l.length (l ++ [d]) (by simp) (fun i hi hl hne => by
    rw [List.length_append, List.length_singleton] at hl
    rw [hat _ (by omega), hat _ (by omega)]
    exact h i hi (by omega)) (fun i hi hl hpe h0 => by
    rw [List.length_append, List.length_singleton] at hl
    omega)
  rw [hpush_len]
  rw [List.length_append, List.length_singleton] at this
  exact this

theorem child_par (l : List D) (k n : Nat) : (child l k n - 1) / 2 = k := by unfold child; split <;> omega
theorem child_pos (l : List D) (k n : Nat) : 0 < child l k n := by unfold child; split <;> omega
theorem child_le {l : List D} {k n i : Nat} (hi : 0 < i) (hn : i < n) (hp : (i - 1) / 2 = k) : le (l.getD (child l k n) d0) (l.getD i d0) := by
  have hi2 : i = 2 * k + 1 ∨ i = 2 * k + 2 := by omega
  unfold child
  split
  · rename_i hh
    rcases hi2 with rfl | rfl
    · exact le_of_less hh.2
    · rw [le_iff]; omega
  · rename_i hh
    rcases hi2 with rfl | rfl
    · rw [le_iff]; omega
    · cases hb : less (l.getD (2 * k + 2) d0) (l.getD (2 * k + 1) d0)
      · exact hb
      · exact absurd ⟨by omega, hb⟩ hh

theorem hdown_heap (n : Nat) : ∀ (m k : Nat) (l : List D), m = n - k → k < n → n ≤ l.length → (∀ i, 0 < i → i < n → (i - 1) / 2 ≠ k → le (l.getD ((i - 1) / 2) d0) (l.getD i d0)) →
    (∀ i, 0 < i → i < n → (i - 1) / 2 = k → 0 < k → le (l.getD ((k - 1) / 2) d0) (l.getD i d0)) →
    IsHeap n (hdown l k n) ∧ (hdown l k n).Perm l ∧ ∀ p, n ≤ p → (hdown l k n).getD p d0 = l.getD p d0 := by
  intro m
  induction m using Nat.strongRecOn with
  | ind m ih =>
    intro k l hm hk hn h1 h2
    by_cases hs : n ≤ 2 * k + 1 ∨ less (l.getD (child l k n) d0) (l.getD k d0) = false
    · rw [hdown_stop hs]
      refine ⟨fun i hi hl => ?_, List.Perm.refl _, fun _ _ => rfl⟩
      by_cases e : (i - 1) / 2 = k
      · rcases hs with hs | hs
        · omega
        · rw [e]
          exact le_trans' hs (child_le hi hl e)
      · exact h1 i hi hl e
    · have hk1 : 2 * k + 1 < n := by
        have : ¬ n ≤ 2 * k + 1 := fun e => hs (Or.inl e)
        omega
      have hlt : less (l.getD (child l k n) d0) (l.getD k d0) = true := by
        cases hh : less (l.getD (child l k n) d0) (l.getD k d0)
        · exact absurd (Or.inr hh) hs
        · rfl
      rw [hdown_go hk1 hlt]
      have hcn := child_lt (l := l) hk1
      have hck := child_gt l k n
      have hcp := child_par l k n
      have hjp := le_of_less hlt
      have hcl : ∀ i, 0 < i → i < n → (i - 1) / 2 = k → le (l.getD (child l k n) d0) (l.getD i d0) := fun i a b c => child_le a b c
      generalize child l k n = c at *
      have hkl : k < l.length := by omega
      have hcll : c < l.length := by omega
      have key := ih (n - c) (by omega) c (swp l k c) rfl hcn (by rw [swp_len]; omega) ?_ ?_
      · refine ⟨key.1, key.2.1.trans (swp_perm l _ _ hkl hcll), fun p hp => ?_⟩
        rw [key.2.2 p hp, swp_at _ _ _ _ hkl hcll, if_neg (by omega), if_neg (by omega)]
      · intro i hi hl hne
        rw [swp_at _ _ _ _ hkl hcll, swp_at _ _ _ _ hkl hcll]
        rw [if_neg hne]
        by_cases e1 : (i - 1) / 2 = k
        · rw [if_pos e1]
          by_cases e2 : i = c
          · rw [if_pos e2]; exact hjp
          · rw [if_neg e2, if_neg (by omega)]
            exact hcl i hi hl e1
        · rw [if_neg e1]
          by_cases e2 : i = c
          · exact absurd (e2 ▸ hcp) e1
          · rw [if_neg e2]
            by_cases e3 : i = k
            · rw [if_pos e3]
              have := h2 c (by omega) hcn hcp (by omega)
              rw [e3]; exact this
            · rw [if_neg e3]; exact h1 i hi hl e1
      · intro i hi hl hpe hc0
        rw [swp_at _ _ _ _ hkl hcll, swp_at _ _ _ _ hkl hcll, hcp]
        rw [if_neg (by omega), if_pos rfl, if_neg (by omega), if_neg (by omega)]
        have := h1 i hi hl (by omega)
        rw [hpe] at this
        exact this

theorem heap_min {l : List D} (h : IsHeap l.length l) : ∀ i, i < l.length → le (l.getD 0 d0) (l.getD i d0) := by
  intro i
  induction i using Nat.strongRecOn with
  | ind i ih =>
    intro hi
    by_cases e : i = 0
    · subst e; rw [le_iff]; omega
    · exact le_trans' (ih ((i - 1) / 2) (by omega) (by omega)) (h i (by omega) hi)

theorem hpop_heap {l : List D} (h : IsHeap l.length l) (hl : 0 < l.length) : htop l = l.getD 0 d0 ∧ IsHeap (hrest l).length (hrest l) ∧ (htop l :: hrest l).Perm l := by
  obtain ⟨n, hn⟩ : ∃ n, l.length = n + 1 := ⟨l.length - 1, by omega⟩
  have hat : ∀ m, (swp l 0 n).getD m d0 = if m = n then l.getD 0 d0 else if m = 0 then l.getD n d0 else l.getD m d0 := fun m => swp_at l 0 n m (by omega) (by omega)
  have hturn_eq : hturn l = hdown (swp l 0 n) 0 n := by unfold hturn; rw [hn]; rfl
  have key : IsHeap n (hturn l) ∧ (hturn l).Perm (swp l 0 n) ∧ ∀ p, n ≤ p → (hturn l).getD p d0 = (swp l 0 n).getD p d0 := by
    rw [hturn_eq]
    by_cases h0 : n = 0
    · subst h0
      rw [hdown_stop (Or.inl (by omega))]
      exact ⟨fun i hi hl => by omega, List.Perm.refl _, fun _ _ => rfl⟩
    · refine hdown_heap n n 0 _ rfl (by omega) (by rw [swp_len]; omega) (fun i hi hl hne => ?_) (fun i hi hl hp h0 => by omega)
      rw [hat, hat, if_neg (by omega), if_neg hne, if_neg (by omega), if_neg (by omega)]
      exact h i hi (by omega)
  have hlen : (hturn l).length = n + 1 := by rw [hturn_eq, hdown_len, swp_len, hn]
  have htop_eq : htop l = l.getD 0 d0 := by
    unfold htop
    rw [hn, show n + 1 - 1 = n by omega, key.2.2 n (Nat.le_refl _), hat, if_pos rfl]
  have hrl : (hrest l).length = n := by rw [hrest_len, hn]; rfl
  have hr : ∀ i, i < n → (hrest l).getD i d0 = (hturn l).getD i d0 := fun i hi => by
    unfold hrest
    simp only [List.getD_eq_getElem?_getD, List.getElem?_take]
    rw [if_pos (by omega)]
  refine ⟨htop_eq, fun i hi hl => ?_, ?_⟩
  · rw [hrl] at hl
    rw [hr _ (by omega), hr _ hl]
    exact key.1 i hi hl
  · have hsplit : hturn l = hrest l ++ [htop l] := by
      unfold hrest htop
      rw [hn, show n + 1 - 1 = n by omega, getD_get _ _ (by omega)]
      conv => lhs; rw [← List.take_append_drop n (hturn l)]
      congr 1
      rw [List.drop_eq_getElem_cons (by omega), List.drop_eq_nil_of_le (by omega)]
    refine List.Perm.trans ?_ (key.2.1.trans (swp_perm l 0 n (by omega) (by omega)))
    rw [hsplit]
    exact (List.perm_append_comm (l₁ := [htop l]) (l₂ := hrest l))
end Go.Proofs.Ytjdehmclcdiijaa.Hp
