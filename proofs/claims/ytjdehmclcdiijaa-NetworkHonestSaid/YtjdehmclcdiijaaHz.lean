/- NetworkHonest's plain law: what is told is among what was taken. -/
import Derived.Test.YtjdehmclcdiijaaHn
set_option linter.unusedVariables false
namespace Go.Proofs.Ytjdehmclcdiijaa.Hp

/-- A copy that was taken. -/
structure Cp where
  way : Int
  bytes : ByteArray
  due : Int
def hitO (o : Int) (s : ByteArray) (T : Int) (c : Cp) : Bool := decide (c.way = o) && (decide (c.bytes = s) && decide (c.due ≤ T))
def hitL (s : ByteArray) (T : Int) (d : DG) : Bool := decide (d.2 = s) && decide (d.1 ≤ T)

/-- out is what the network holds, but for when each copy that is due is due; slack: how far ahead the last one is due. -/
structure Inv (out : List Cp) (a : AN) (slack : Int) : Prop where
  cnt : ∀ o : Nat, o < 2 → ∀ s T, a.now ≤ T → out.countP (hitO o s T) = (a.L o).countP (hitL s T)
  len : out.length = (a.L 0).length + (a.L 1).length
  due : ∀ o : Nat, o < 2 → ∀ d ∈ a.L o, d.1 ≤ a.now + slack
theorem inv_fresh (most : Int) (slack : Int) : Inv [] (afresh most) slack := ⟨fun o ho s T hT => by simp [afresh], by simp [afresh], fun o ho d hd => by simp [afresh] at hd⟩
theorem inv_mono {out : List Cp} {a : AN} {s s' : Int} (h : Inv out a s) (hs : s ≤ s') : Inv out a s' := ⟨h.cnt, h.len, fun o ho d hd => by have := h.due o ho d hd; omega⟩
theorem inv_tick {out : List Cp} {a : AN} {s : Int} (h : Inv out a s) : Inv out a.tick (s - 1) :=
  ⟨fun o ho b T hT => h.cnt o ho b T (by simp only [AN.tick] at hT; omega), h.len, fun o ho d hd => by have := h.due o ho d hd; simp only [AN.tick]; omega⟩

/-- The copies that are taken are the first ones. -/
def news (a : AN) (bytes : ByteArray) (d : Int) (t : Nat) : List DG := (List.range t).map fun j : Nat => (a.now + d % 8 + (j : Int), bytes)
theorem news_succ (a : AN) (bytes : ByteArray) (d : Int) (t : Nat) : news a bytes d (t + 1) = news a bytes d t ++ [(a.now + d % 8 + (t : Int), bytes)] := by unfold news; rw [List.range_succ, List.map_append]; rfl
theorem sendTo_list (a : AN) (o : Nat) (bytes : ByteArray) (d : Int) : ∀ k : Nat, ∃ t : Nat, (asendTo a o bytes d k).2 = t ∧ t ≤ k ∧ (asendTo a o bytes d k).1.L o = a.L o ++ news a bytes d t ∧ (∀ p, p ≠ o → (asendTo a o bytes d k).1.L p = a.L p) ∧
    (asendTo a o bytes d k).1.now = a.now ∧ (asendTo a o bytes d k).1.most = a.most ∧ (t = k ∨ a.most ≤ (((asendTo a o bytes d k).1.L o).length : Int))
  | 0 => ⟨0, rfl, Nat.le_refl _, by simp [asendTo, news], fun _ _ => rfl, rfl, rfl, Or.inl rfl⟩
  | k + 1 => by
    obtain ⟨t, h1, h2, h3, h4, h5, h6, h7⟩ := sendTo_list a o bytes d k
    rw [asendTo]
    split
    · rename_i hf
      exact ⟨t, h1, by omega, h3, h4, h5, h6, Or.inr (by rw [← h6]; exact hf)⟩
    · rename_i hf
      have htk : t = k := by
        rcases h7 with h | h
        · exact h
        · rw [h6] at hf; exact absurd h hf
      subst htk
      refine ⟨t + 1, by simp only; rw [h1]; rfl, by omega, ?_, fun p hp => ?_, h5, h6, Or.inl rfl⟩
      · simp only [AN.setL, ↓reduceIte]
        rw [h3, h5, news_succ, List.append_assoc]
      · simp only [AN.setL, hp, ↓reduceIte]
        exact h4 p hp
/-- The copies as the statement notes them. -/
def noted (a : AN) (o : Nat) (bytes : ByteArray) (d : Int) (t : Nat) : List Cp := (List.range t).map fun j : Nat => ⟨(o : Int), bytes, a.now + d % 8 + (j : Int)⟩
theorem noted_hit (a : AN) (o : Nat) (bytes : ByteArray) (d : Int) (s : ByteArray) (T : Int) (t : Nat) : (noted a o bytes d t).countP (hitO o s T) = (news a bytes d t).countP (hitL s T) := by
  unfold noted news
  rw [List.countP_map, List.countP_map]
  congr 1
  funext j
  simp [hitO, hitL]
theorem noted_other (a : AN) (o p : Nat) (hp : p ≠ o) (bytes : ByteArray) (d : Int) (s : ByteArray) (T : Int) (t : Nat) : (noted a o bytes d t).countP (hitO p s T) = 0 := by
  unfold noted
  rw [List.countP_map, List.countP_eq_zero]
  intro j _
  have : ¬ ((o : Int) = (p : Int)) := by omega
  simp [hitO, this]
theorem inv_send {out : List Cp} {a : AN} {sl : Int} (h : Inv out a sl) (hsl : sl ≤ 10) (o : Nat) (ho : o < 2) (bytes : ByteArray) (c d : Int) :
    ∃ t : Nat, (asendS a o bytes c d).2 = t ∧ (t : Int) ≤ c % 4 ∧ Inv (out ++ noted a o bytes d t) (asendS a o bytes c d).1 10 ∧ (asendS a o bytes c d).1.now = a.now := by
  obtain ⟨t, h1, h2, h3, h4, h5, h6, _⟩ := sendTo_list (asend1 a c) o bytes d (c % 4).toNat
  have e1 : news (asend1 a c) bytes d t = news a bytes d t := rfl
  rw [e1] at h3
  have hL : (asend1 a c).L = a.L := rfl
  have hN : (asend1 a c).now = a.now := rfl
  have hc4 : 0 ≤ c % 4 := by omega
  have hc5 : c % 4 < 4 := by omega
  refine ⟨t, h1, by omega, ⟨fun p hp s T hT => ?_, ?_, fun p hp x hx => ?_⟩, h5⟩
  · unfold asendS at hT ⊢
    rw [h5, hN] at hT
    rw [List.countP_append]
    by_cases e : p = o
    · subst e
      rw [h3, List.countP_append, noted_hit, h.cnt p hp s T hT, hL]
    · rw [h4 p e, noted_other a o p e, h.cnt p hp s T hT, hL, Nat.add_zero]
  · unfold asendS
    have hn : (noted a o bytes d t).length = t := by simp [noted]
    have hw : (news a bytes d t).length = t := by simp [news]
    rw [List.length_append, hn, h.len]
    rcases (by omega : o = 0 ∨ o = 1) with rfl | rfl
    · rw [h3, h4 1 (by omega), List.length_append, hw, hL]; omega
    · rw [h3, h4 0 (by omega), List.length_append, hw, hL]; omega
  · unfold asendS at hx ⊢
    rw [h5, hN]
    by_cases e : p = o
    · subst e
      rw [h3, List.mem_append] at hx
      rcases hx with hx | hx
      · have := h.due p hp x hx; omega
      · unfold news at hx
        obtain ⟨j, hj, rfl⟩ := List.mem_map.1 hx
        have hjt := List.mem_range.1 hj
        show a.now + d % 8 + (j : Int) ≤ a.now + 10
        have : d % 8 < 8 := by omega
        omega
    · rw [h4 p e] at hx
      have := h.due p hp x hx; omega
theorem countP_erase {α : Type} (p : α → Bool) : ∀ (l : List α) (i : Nat) (hi : i < l.length), (l.eraseIdx i).countP p + (if p l[i] then 1 else 0) = l.countP p
  | [], i, h => by simp at h
  | x :: l, 0, h => by simp [List.countP_cons]
  | x :: l, i + 1, h => by
    have := countP_erase p l i (by simpa using h)
    simp only [List.eraseIdx_cons_succ, List.countP_cons, List.getElem_cons_succ]
    omega
/-- What is told is found, and let go. -/
theorem inv_recv {out : List Cp} {a : AN} {sl : Int} (h : Inv out a sl) (o : Nat) (ho : o < 2) (hr : aready a o = true) :
    (∃ i, ∃ hi : i < out.length, hitO o (atop a o) a.now out[i] = true) ∧ ∀ i (hi : i < out.length), hitO o (atop a o) a.now out[i] = true → Inv (out.eraseIdx i) (arecv a o) sl := by
  have hr' := hr
  unfold aready at hr'
  rw [Bool.and_eq_true] at hr'
  have h0 := of_decide_eq_true hr'.1
  have hdue := of_decide_eq_true hr'.2
  obtain ⟨f1, _, _⟩ := fm_spec (a.L o) h0
  have hgf : (a.L o).getD (fm (a.L o)) g0 = (a.L o)[fm (a.L o)] := by simp [List.getD_eq_getElem?_getD, f1]
  have htop : atop a o = ((a.L o)[fm (a.L o)]).2 := by unfold atop; rw [hgf]
  rw [hgf] at hdue
  refine ⟨?_, fun i hi hhit => ⟨fun p hp s T hT => ?_, ?_, fun p hp x hx => ?_⟩⟩
  · have hc := h.cnt o ho (atop a o) a.now (Int.le_refl _)
    have hpos : 0 < (a.L o).countP (hitL (atop a o) a.now) := List.countP_pos_iff.2 ⟨(a.L o)[fm (a.L o)], List.getElem_mem f1, by simp [hitL, htop, hdue]⟩
    rw [← hc] at hpos
    obtain ⟨x, hx, hh⟩ := List.countP_pos_iff.1 hpos
    obtain ⟨i, hi, rfl⟩ := List.getElem_of_mem hx
    exact ⟨i, hi, hh⟩
  · have hT' : a.now ≤ T := hT
    simp only [hitO, Bool.and_eq_true, decide_eq_true_eq] at hhit
    have e1 := countP_erase (hitO p s T) out i hi
    have hcp := h.cnt p hp s T hT'
    by_cases e : p = o
    · subst e
      have e2 := countP_erase (hitL s T) (a.L p) (fm (a.L p)) f1
      have hsame : hitO p s T out[i] = hitL s T ((a.L p)[fm (a.L p)]) := by
        simp only [hitO, hitL]
        rw [hhit.1, hhit.2.1, htop, decide_eq_true rfl, Bool.true_and, decide_eq_true (show out[i].due ≤ T by omega), decide_eq_true (show ((a.L p)[fm (a.L p)]).1 ≤ T by omega)]
      rw [hsame] at e1
      simp only [arecv, AN.setL, ↓reduceIte]
      omega
    · have hno : hitO p s T out[i] = false := by
        simp only [hitO]
        rw [hhit.1, decide_eq_false (show ¬ ((o : Int) = (p : Int)) by omega), Bool.false_and]
      rw [hno] at e1
      simp only [arecv, AN.setL, e, ↓reduceIte]
      simp at e1
      omega
  · rw [List.length_eraseIdx_of_lt hi, h.len]
    simp only [arecv, AN.setL]
    rcases (by omega : o = 0 ∨ o = 1) with rfl | rfl
    · simp only [↓reduceIte, Nat.one_ne_zero]
      rw [List.length_eraseIdx_of_lt f1]; omega
    · simp only [↓reduceIte, Nat.zero_ne_one]
      rw [List.length_eraseIdx_of_lt f1]; omega
  · simp only [arecv, AN.setL] at hx ⊢
    by_cases e : p = o
    · subst e
      simp only [↓reduceIte] at hx
      exact h.due p hp x (List.mem_of_mem_eraseIdx hx)
    · simp only [e, ↓reduceIte] at hx
      exact h.due p hp x hx
/-- Where all is due, what is there is told. -/
theorem ready_all {out : List Cp} {a : AN} {sl : Int} (h : Inv out a sl) (hsl : sl ≤ 0) (o : Nat) (ho : o < 2) : aready a o = decide (0 < (a.L o).length) := by
  unfold aready
  by_cases h0 : 0 < (a.L o).length
  · obtain ⟨f1, _, _⟩ := fm_spec (a.L o) h0
    have hgf : (a.L o).getD (fm (a.L o)) g0 = (a.L o)[fm (a.L o)] := by simp [List.getD_eq_getElem?_getD, f1]
    have := h.due o ho _ (List.getElem_mem f1)
    rw [decide_eq_true h0, Bool.true_and, hgf]
    exact decide_eq_true (by omega)
  · rw [decide_eq_false h0, Bool.false_and]
end Go.Proofs.Ytjdehmclcdiijaa.Hp
