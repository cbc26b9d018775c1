/- The document's Recv. -/
import Derived.Test.YtjdehmclcdiijaaRn
import Derived.Deep.QuietTactic
set_option linter.unusedVariables false
namespace Go.Proofs.Ytjdehmclcdiijaa.Hp
open Go.RowKit Go.Proofs.YtjdehmclcdiijaaW.PrintWords Go.Proofs.YtjdehmclcdiijaaW.PrintLast Go.Proofs.YtjdehmclcdiijaaW.PrintMore

/-! append(v, ys...) of rows of one's own. -/
section
variable {P : Program} {ops : Array Oper} {rest : List Oper} {o : Oper} {a : Act} {Q : Exit → Act → World → Prop} {K : Act → World → Prop}
theorem app_rows {w0 W : World} (base : Nat) (hgd : o.guard = none) (s x : Operand) (t e : TypeId) (z : Value) (size bytes : Nat)
    (ho : o.op = .call { callee := .builtin .append, args := #[s, x], argTypes := #[t, t] })
    (ht : P.underlying t = some (.slice e)) (hinfo : (P.info? e).map (fun i => (i.zero, i.size, i.bytes)) = some (some z, size, bytes)) (hz : z.cells.size = size) (hs0 : 0 < size) (hb0 : 0 < bytes)
    (v : Value) (n : Nat) (xs : List Value) (A : Addr) (m c : Nat) (news : List Value) (hs : a.eval s = v) (hx : a.eval x = .slice (some A) m c) (hys : news.length = m * size) (hnews : ∀ j u, news[j]? = some u → W.cell? (A.add j) = some u) (h1 : ∀ u ∈ news, u.oneCell' = true)
    (HO : W.ownsRow base e size v n xs) (HB : Below base w0 W) (hbase : base ≤ W.heap.size) (hl : (n + m) * bytes ≤ 140737488355328)
    (h : ∀ v1 w1, w1.ownsRow base e size v1 (n + m) (xs ++ news) → Below base w0 w1 → W.grownBy w1 v.ownBlock → (v1.ownBlock = v.ownBlock ∨ ∃ b, v1.ownBlock = some b ∧ W.heap.size ≤ b) → wpList P ops Q rest (a.put o.dst v1) w1) :
    wpList P ops Q (o :: rest) a W := by
  obtain ⟨i0, hi, hzz⟩ := Option.map_eq_some_iff.1 hinfo
  simp only [Prod.mk.injEq] at hzz
  obtain ⟨hz0, hz1, hz2⟩ := hzz
  have hlen : n + m ≤ 140737488355328 := Nat.le_trans (Nat.le_mul_of_pos_right _ hb0) hl
  refine wpList_append_own_at W hgd s x t ho base e i0 z size bytes ht hi hz0 hz1 hz2 hz hs0 v n xs hs HO A m c news hx hys hnews h1 (by simp only [maxLen]; omega) hl hbase ?_
  intro v1 w1 hown hg _ hat
  refine h v1 w1 hown (HB.grown hg hbase (own_base HO)) hg ?_
  rcases hat with hat | hat
  · exact .inl hat
  · exact .inr ⟨_, hat, Nat.le_refl _⟩
theorem app_rows_step {w0 W : World} (base : Nat) (hw : Region.wanted o (yielded ops a.tmps) = true) (s x : Operand) (t e : TypeId) (z : Value) (size bytes : Nat)
    (ho : o.op = .call { callee := .builtin .append, args := #[s, x], argTypes := #[t, t] })
    (ht : P.underlying t = some (.slice e)) (hinfo : (P.info? e).map (fun i => (i.zero, i.size, i.bytes)) = some (some z, size, bytes)) (hz : z.cells.size = size) (hs0 : 0 < size) (hb0 : 0 < bytes)
    (v : Value) (n : Nat) (xs : List Value) (A : Addr) (m c : Nat) (news : List Value) (hs : a.eval s = v) (hx : a.eval x = .slice (some A) m c) (hys : news.length = m * size) (hnews : ∀ j u, news[j]? = some u → W.cell? (A.add j) = some u) (h1 : ∀ u ∈ news, u.oneCell' = true)
    (HO : W.ownsRow base e size v n xs) (HB : Below base w0 W) (hbase : base ≤ W.heap.size) (hl : (n + m) * bytes ≤ 140737488355328)
    (h : ∀ v1 w1, w1.ownsRow base e size v1 (n + m) (xs ++ news) → Below base w0 w1 → W.grownBy w1 v.ownBlock → (v1.ownBlock = v.ownBlock ∨ ∃ b, v1.ownBlock = some b ∧ W.heap.size ≤ b) → K (a.put o.dst v1) w1) :
    if Region.wanted o (yielded ops a.tmps) = true then Oper.wp P o a W K Q else K (a.put o.dst undef) W := by
  obtain ⟨i0, hi, hzz⟩ := Option.map_eq_some_iff.1 hinfo
  simp only [Prod.mk.injEq] at hzz
  obtain ⟨hz0, hz1, hz2⟩ := hzz
  have hlen : n + m ≤ 140737488355328 := Nat.le_trans (Nat.le_mul_of_pos_right _ hb0) hl
  rw [if_pos hw]
  obtain ⟨v1, w1, hr, hown, hg, _, hat⟩ := run_append_own_at (P := P) W base t o.type e i0 z size bytes ht hi hz0 hz1 hz2 hz hs0 v n xs HO A m c news hys hnews h1 (by simp only [maxLen]; omega) hl hbase
  unfold Oper.wp execOp
  simp only [ho, resolve, invoke, builtin, Sem.run_bind, Sem.run_pure, Result.andThen_ok, List.map_toArray, List.map_cons, List.map_nil, hs, hx, hr]
  refine h v1 w1 hown (HB.grown hg hbase (own_base HO)) hg ?_
  rcases hat with hat | hat
  · exact .inl hat
  · exact .inr ⟨_, hat, Nat.le_refl _⟩
end

theorem isr_store2 {w w1 : World} {base g : Nat} {a : AN} {F : Nat → Prop} {vs : Nat → Value} (h : IsRV w base g a F vs) {o : Nat} (ho : o < 2) {v1 : Value} {l : List DG}
    (hown : w1.ownsRow base 75 2 v1 l.length (flat2 l)) (hg : w.grownBy w1 (vs o).ownBlock) (hat : ∀ k, v1.ownBlock = some k → (vs o).ownBlock = some k ∨ w.heap.size ≤ k) :
    w1.cell? ⟨g, 2 + o, none⟩ = some (vs o) ∧ w1.frozen? ⟨g, 2 + o, none⟩ = false ∧ DidR w (w1.setCell ⟨g, 2 + o, none⟩ v1) base g (a.setL o l) F := by
  have hlt := rv_lt h
  have hq := rv_q h ho
  obtain ⟨h1, h2, h3, h4, h5⟩ := h
  have hgo : some g ≠ (vs o).ownBlock := fun e => (h2 o ho).2.1 e.symm
  have hb1 : w1.heap[g]? = some (.cells (rcells a vs) 51 (0, 0)) := (hg.block g hlt hgo).trans h1
  have hc1 : w1.cell? ⟨g, 2 + o, none⟩ = some (vs o) := (World.cell?_of_block (hg.block g hlt hgo)).trans hq
  have hv1g : v1.ownBlock ≠ some g := by
    intro e
    rcases hat g e with k | hle
    · exact hgo k.symm
    · omega
  have hv1 : ∀ k, v1.ownBlock = some k → F k ∨ w.heap.size ≤ k := by
    intro k hk
    rcases hat k hk with e | hle
    · exact Or.inl ((h2 o ho).2.2 k e)
    · exact Or.inr hle
  have hkept : Kept w (w1.setCell ⟨g, 2 + o, none⟩ v1) (fun k => k = g ∨ (vs o).ownBlock = some k) :=
    Kept.setCell (S := fun k => k = g ∨ (vs o).ownBlock = some k) (Kept.of_grown hg (Kept.refl _ _) (fun k hk => Or.inl (Or.inr hk))) (Or.inl (Or.inl rfl)) v1
  have hfoot : ∀ k, (k = g ∨ (vs o).ownBlock = some k) → F k := fun k hk => by
    rcases hk with rfl | hk
    · exact h4
    · exact (h2 o ho).2.2 k hk
  have hother : ∀ p, p < 2 → p ≠ o → ∀ k, (vs p).ownBlock = some k → ¬ (k = g ∨ (vs o).ownBlock = some k) ∧ v1.ownBlock ≠ some k := by
    intro p hp hpo k hk
    have hne : (vs o).ownBlock ≠ some k := by
      rcases (by omega : (o = 0 ∧ p = 1) ∨ (o = 1 ∧ p = 0)) with ⟨rfl, rfl⟩ | ⟨rfl, rfl⟩
      · exact fun e => h3 k e hk
      · exact h3 k hk
    refine ⟨?_, ?_⟩
    · rintro (rfl | e)
      · exact (h2 p hp).2.1 hk
      · exact hne e
    · intro e
      rcases hat k e with k' | hle
      · exact hne k'
      · have := ((h2 p hp).1.lt k hk).2
        omega
  refine ⟨hc1, (World.frozen?_of_block (hg.block g hlt hgo)).trans (frozen_of_row w g _ _ 51 h1), fun k => F k ∨ v1.ownBlock = some k, ⟨fun k => if k = o then v1 else vs k, ?_, ?_, ?_, Or.inl h4, ?_⟩, ?_, hkept.mono hfoot, ?_⟩
  · refine (heap_setCell_same w1 g (2 + o) _ 51 v1 hb1).trans ?_
    rcases (by omega : o = 0 ∨ o = 1) with rfl | rfl <;> rfl
  · intro p hp
    by_cases e : p = o
    · subst e
      simp only [↓reduceIte, AN.setL]
      exact ⟨ownsRow_setCell_other hown hv1g v1, hv1g, fun k hk => Or.inr hk⟩
    · simp only [e, ↓reduceIte, AN.setL]
      exact ⟨own_kept75 (h2 p hp).1 hkept (fun k hk => (hother p hp e k hk).1), (h2 p hp).2.1, fun k hk => Or.inl ((h2 p hp).2.2 k hk)⟩
  · intro k
    rcases (by omega : o = 0 ∨ o = 1) with rfl | rfl
    · simp only [↓reduceIte, Nat.one_ne_zero]
      exact fun e1 e2 => (hother 1 (by omega) (by omega) k e2).2 e1
    · simp only [↓reduceIte, Nat.zero_ne_one]
      exact fun e1 => (hother 0 (by omega) (by omega) k e1).2
  · intro k hk
    rcases hk with hk | hk
    · exact ⟨(h5 k hk).1, by have := (h5 k hk).2; have := hkept.1; omega⟩
    · have := hown.lt k hk
      exact ⟨this.1, by simpa using this.2⟩
  · intro k hk
    rcases hk with hk | hk
    · exact Or.inl hk
    · exact hv1 k hk
  · have hbk : ∀ k, (vs o).ownBlock = some k → base ≤ k := fun k hk => ((h2 o ho).1.lt k hk).1
    exact ((Below.refl base w).grown hg (Nat.le_trans (h5 g h4).1 (Nat.le_of_lt hlt)) hbk).setCell (h5 g h4).1 v1


/-! The best one, by a walk over the list. -/
def rbest (L : List DG) (now : Int) : Nat → Int
  | 0 => -1
  | i + 1 => if (L.getD i g0).1 ≤ now ∧ (rbest L now i < 0 ∨ (L.getD i g0).1 < (L.getD (rbest L now i).toNat g0).1) then i else rbest L now i
theorem rbest_spec (L : List DG) (now : Int) : ∀ i, i ≤ L.length →
    (rbest L now i = -1 ∧ ∀ j, j < i → now < (L.getD j g0).1) ∨ (∃ b : Nat, rbest L now i = b ∧ b < i ∧ (L.getD b g0).1 ≤ now ∧ (∀ j, j < i → (L.getD b g0).1 ≤ (L.getD j g0).1) ∧ ∀ j, j < b → (L.getD b g0).1 < (L.getD j g0).1)
  | 0, _ => Or.inl ⟨rfl, fun j hj => by omega⟩
  | i + 1, hi => by
    have ih := rbest_spec L now i (by omega)
    rw [rbest]
    split
    · rename_i hc
      refine Or.inr ⟨i, rfl, by omega, hc.1, ?_, ?_⟩
      · intro j hj
        rcases ih with ⟨e, h1⟩ | ⟨b, e, h1, h2, h3, h4⟩
        · by_cases hji : j = i
          · subst hji; omega
          · have := h1 j (by omega); omega
        · rw [e] at hc
          by_cases hji : j = i
          · subst hji; omega
          · have := h3 j (by omega)
            have h5 := hc.2
            simp only [Int.toNat_natCast] at h5
            omega
      · intro j hj
        rcases ih with ⟨e, h1⟩ | ⟨b, e, h1, h2, h3, h4⟩
        · have := h1 j hj; omega
        · rw [e] at hc
          have := h3 j hj
          have h5 := hc.2
          simp only [Int.toNat_natCast] at h5
          omega
    · rename_i hc
      rcases ih with ⟨e, h1⟩ | ⟨b, e, h1, h2, h3, h4⟩
      · refine Or.inl ⟨e, fun j hj => ?_⟩
        by_cases hji : j = i
        · subst hji
          rw [e] at hc
          omega
        · exact h1 j (by omega)
      · refine Or.inr ⟨b, e, by omega, h2, fun j hj => ?_, h4⟩
        by_cases hji : j = i
        · subst hji
          rw [e] at hc
          simp only [Int.toNat_natCast] at hc
          omega
        · exact h3 j (by omega)
theorem rbest_is (a : AN) (o : Nat) : rbest (a.L o) a.now (a.L o).length = if aready a o = true then (fm (a.L o) : Int) else -1 := by
  have hs := rbest_spec (a.L o) a.now (a.L o).length (Nat.le_refl _)
  by_cases hr : aready a o = true
  · rw [if_pos hr]
    unfold aready at hr
    rw [Bool.and_eq_true] at hr
    have h0 := of_decide_eq_true hr.1
    have h1 := of_decide_eq_true hr.2
    obtain ⟨f1, f2, f3⟩ := fm_spec (a.L o) h0
    rcases hs with ⟨e, k⟩ | ⟨b, e, k1, k2, k3, k4⟩
    · have := k _ f1; omega
    · rw [e]
      have e1 := f2 b k1
      have e2 := k3 _ f1
      have hbf : b = fm (a.L o) := by
        apply Classical.byContradiction
        intro hne
        rcases (by omega : b < fm (a.L o) ∨ fm (a.L o) < b) with h | h
        · have := f3 b h; omega
        · have := k4 _ h; omega
      rw [hbf]
  · rw [if_neg hr]
    rcases hs with ⟨e, k⟩ | ⟨b, e, k1, k2, k3, k4⟩
    · exact e
    · exfalso
      apply hr
      unfold aready
      obtain ⟨f1, f2, f3⟩ := fm_spec (a.L o) (by omega)
      rw [decide_eq_true (by omega : 0 < (a.L o).length), Bool.true_and]
      apply decide_eq_true
      have := f2 b k1
      omega

set_option maxRecDepth 100000 in
theorem r_recv_none (w : World) (way : Int) : Calls Try.prog 18 #[.pointer none, .int .i64 way] w fun e w' => e = .returned (.tuple #[.string .empty, .bool false]) ∧ w = w' := by
  go_enter Try.func18, Try.ntmps18
  go_wp2
  all_goals go_ret2
  all_goals exact And.intro rfl rfl
set_option maxRecDepth 100000 in
theorem r_recv_noway (w : World) (g : Nat) (way : Int) (hw : ¬ (0 ≤ way ∧ way < 2)) : Calls Try.prog 18 #[.pointer (some ⟨g, 0, none⟩), .int .i64 way] w fun e w' => e = .returned (.tuple #[.string .empty, .bool false]) ∧ w = w' := by
  have n0 : (way == 0) = false := by simp; omega
  have n1 : (way == 1) = false := by simp; omega
  have d0 : ¬ way = 0 := by omega
  have d1 : ¬ way = 1 := by omega
  have b0 : (way != 0) = true := by simp; omega
  have b1 : (way != 1) = true := by simp; omega
  go_enter Try.func18, Try.ntmps18
  go_wp2
  all_goals go_ret2
  all_goals exact And.intro rfl rfl
end Go.Proofs.Ytjdehmclcdiijaa.Hp
