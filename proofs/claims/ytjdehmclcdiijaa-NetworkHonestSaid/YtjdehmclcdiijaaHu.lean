/- NetworkHonest: the slack from round to round; the search in the copies; all that is due. Plain law. -/
import Derived.Test.YtjdehmclcdiijaaHy
set_option linter.unusedVariables false
namespace Go.Proofs.Ytjdehmclcdiijaa.Hp
/-- How far ahead a copy is due behind k rounds, n of which had acts. -/
def slk (n k : Nat) : Int := if k ≤ n then 10 else 10 - ((k : Int) - n)
theorem slk_act {n k : Nat} (h : k < n) : slk n k = 10 ∧ slk n (k + 1) = 10 := by unfold slk; rw [if_pos (by omega), if_pos (by omega)]; exact ⟨rfl, rfl⟩
theorem slk_after {n k : Nat} (h : n ≤ k) : slk n (k + 1) = slk n k - 1 := by unfold slk; rw [if_neg (by omega)]; split <;> omega
theorem slk_end (n : Nat) : slk n (n + 20) = -10 := by unfold slk; rw [if_neg (by omega)]; omega
/-- The search: where the first copy is that fits, of the first i. -/
def seek (out : List Cp) (o : Int) (s : ByteArray) (T : Int) : Nat → Int
  | 0 => -1
  | i + 1 => if seek out o s T i < 0 then (if hitO o s T (out.getD i c0) = true then i else -1) else seek out o s T i
theorem seek_spec (out : List Cp) (o : Int) (s : ByteArray) (T : Int) : ∀ i, i ≤ out.length →
    (seek out o s T i = -1 ∧ ∀ j, j < i → hitO o s T (out.getD j c0) = false) ∨ ∃ b : Nat, seek out o s T i = b ∧ b < i ∧ hitO o s T (out.getD b c0) = true
  | 0, _ => Or.inl ⟨rfl, fun j hj => by omega⟩
  | i + 1, hi => by
    rw [seek]
    rcases seek_spec out o s T i (by omega) with ⟨e, h⟩ | ⟨b, e, h1, h2⟩
    · rw [if_pos (by omega)]
      by_cases hh : hitO o s T (out.getD i c0) = true
      · rw [if_pos hh]
        exact Or.inr ⟨i, rfl, by omega, hh⟩
      · rw [if_neg hh]
        refine Or.inl ⟨rfl, fun j hj => ?_⟩
        by_cases hji : j = i
        · subst hji
          cases hb : hitO o s T (out.getD j c0)
          · rfl
          · exact absurd hb hh
        · exact h j (by omega)
    · rw [if_neg (by omega)]
      exact Or.inr ⟨b, e, by omega, h2⟩
/-- Of what is told a copy is found. -/
theorem seek_found {out : List Cp} {a : AN} {sl : Int} (h : Inv out a sl) (o : Nat) (ho : o < 2) (hr : aready a o = true) :
    ∃ b : Nat, ∃ hb : b < out.length, seek out o (atop a o) a.now out.length = b ∧ Inv (out.eraseIdx b) (arecv a o) sl := by
  obtain ⟨⟨i, hi, hhit⟩, h2⟩ := inv_recv h o ho hr
  have hget : ∀ j (hj : j < out.length), out.getD j c0 = out[j] := fun j hj => by simp [List.getD_eq_getElem?_getD, hj]
  rcases seek_spec out o (atop a o) a.now out.length (Nat.le_refl _) with ⟨_, hn⟩ | ⟨b, e, hb, hh⟩
  · have := hn i hi
    rw [hget i hi, hhit] at this
    cases this
  · exact ⟨b, hb, e, h2 b hb (by rw [← hget b hb]; exact hh)⟩
/-- All that is there is due. -/
def AllDue (a : AN) : Prop := ∀ o : Nat, o < 2 → ∀ d ∈ a.L o, d.1 ≤ a.now
theorem alldue_of {out : List Cp} {a : AN} {sl : Int} (h : Inv out a sl) (hsl : sl ≤ 0) : AllDue a := fun o ho d hd => by have := h.due o ho d hd; omega
theorem alldue_ready {a : AN} (h : AllDue a) (o : Nat) (ho : o < 2) : aready a o = decide (0 < (a.L o).length) := by
  unfold aready
  by_cases h0 : 0 < (a.L o).length
  · obtain ⟨f1, _, _⟩ := fm_spec (a.L o) h0
    have hgf : (a.L o).getD (fm (a.L o)) g0 = (a.L o)[fm (a.L o)] := by simp [List.getD_eq_getElem?_getD, f1]
    have := h o ho _ (List.getElem_mem f1)
    rw [decide_eq_true h0, Bool.true_and, hgf]
    exact decide_eq_true (by omega)
  · rw [decide_eq_false h0, Bool.false_and]
theorem alldue_recv {a : AN} (h : AllDue a) (o : Nat) : AllDue (arecv a o) := by
  intro p hp d hd
  simp only [arecv, AN.setL] at hd ⊢
  by_cases e : p = o
  · subst e
    simp only [↓reduceIte] at hd
    exact h p hp d (List.mem_of_mem_eraseIdx hd)
  · simp only [e, ↓reduceIte] at hd
    exact h p hp d hd
theorem recv_len {a : AN} {o : Nat} (hr : aready a o = true) : ((arecv a o).L o).length + 1 = (a.L o).length ∧ ∀ p, p ≠ o → (arecv a o).L p = a.L p := by
  unfold aready at hr
  rw [Bool.and_eq_true] at hr
  have h0 := of_decide_eq_true hr.1
  obtain ⟨f1, _, _⟩ := fm_spec (a.L o) h0
  refine ⟨?_, fun p hp => by simp only [arecv, AN.setL, hp, ↓reduceIte]⟩
  simp only [arecv, AN.setL, ↓reduceIte]
  rw [List.length_eraseIdx_of_lt f1]
  omega
end Go.Proofs.Ytjdehmclcdiijaa.Hp
