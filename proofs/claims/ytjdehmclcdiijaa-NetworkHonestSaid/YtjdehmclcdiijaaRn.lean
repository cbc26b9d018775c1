/- The document's network: its state, New, Waiting, Send. -/
import Derived.Test.YtjdehmclcdiijaaHn
import Derived.Maps.AppendAt
set_option linter.unusedVariables false
namespace Go.Proofs.Ytjdehmclcdiijaa.Hp
open Go.RowKit Go.Proofs.YtjdehmclcdiijaaW.PrintWords Go.Proofs.YtjdehmclcdiijaaW.PrintLast Go.Proofs.YtjdehmclcdiijaaW.PrintMore

def flat2 : List DG → List Value
  | [] => []
  | d :: l => .string d.2 :: .int .u64 d.1 :: flat2 l
theorem flat2_len : ∀ l : List DG, (flat2 l).length = l.length * 2
  | [] => rfl
  | d :: l => by simp [flat2, flat2_len l]; omega
theorem flat2_at : ∀ (l : List DG) (i : Nat), i < l.length → (flat2 l)[i * 2]? = some (.string (l.getD i g0).2) ∧ (flat2 l)[i * 2 + 1]? = some (.int .u64 (l.getD i g0).1)
  | [], i, h => by simp at h
  | d :: l, 0, h => by simp [flat2]
  | d :: l, i + 1, h => by
    have := flat2_at l i (by simpa using h)
    rw [show (i + 1) * 2 = i * 2 + 2 by omega]
    simpa [flat2] using this
theorem flat2_append : ∀ (l k : List DG), flat2 (l ++ k) = flat2 l ++ flat2 k
  | [], k => rfl
  | d :: l, k => by simp [flat2, flat2_append l k]
theorem flat2_ones : ∀ (l : List DG), ∀ u ∈ flat2 l, u.oneCell' = true
  | [], u, h => by simp [flat2] at h
  | d :: l, u, h => by
    simp only [flat2, List.mem_cons] at h
    rcases h with rfl | rfl | h
    · rfl
    · rfl
    · exact flat2_ones l u h
theorem flat2_drop : ∀ (l : List DG) (k : Nat), (flat2 l).drop (k * 2) = flat2 (l.drop k)
  | l, 0 => by simp
  | [], k + 1 => by simp [flat2]
  | d :: l, k + 1 => by
    rw [show (k + 1) * 2 = k * 2 + 1 + 1 by omega]
    simp only [flat2, List.drop_succ_cons]
    exact flat2_drop l k

def rcells (a : AN) (vs : Nat → Value) : Array Value := #[.int .i64 a.most, .int .u64 a.now, vs 0, vs 1, .int .i64 a.sent, .int .i64 a.lost, .int .i64 a.told]
def IsRV (w : World) (base g : Nat) (a : AN) (F : Nat → Prop) (vs : Nat → Value) : Prop :=
  w.heap[g]? = some (.cells (rcells a vs) 51 (0, 0)) ∧
  (∀ o, o < 2 → w.ownsRow base 75 2 (vs o) (a.L o).length (flat2 (a.L o)) ∧ (vs o).ownBlock ≠ some g ∧ ∀ k, (vs o).ownBlock = some k → F k) ∧
  (∀ k, (vs 0).ownBlock = some k → (vs 1).ownBlock ≠ some k) ∧ F g ∧ (∀ k, F k → base ≤ k ∧ k < w.heap.size)
def IsR (w : World) (base g : Nat) (a : AN) (F : Nat → Prop) : Prop := ∃ vs, IsRV w base g a F vs
theorem rv_lt {w : World} {base g : Nat} {a : AN} {F : Nat → Prop} {vs : Nat → Value} (h : IsRV w base g a F vs) : g < w.heap.size := blk_lt h.1
theorem rv_cell {w : World} {base g : Nat} {a : AN} {F : Nat → Prop} {vs : Nat → Value} (h : IsRV w base g a F vs) (i : Nat) : w.cell? ⟨g, i, none⟩ = (rcells a vs)[i]? := cell_of_row w g i _ 51 (0, 0) h.1
theorem rv_free {w : World} {base g : Nat} {a : AN} {F : Nat → Prop} {vs : Nat → Value} (h : IsRV w base g a F vs) (i : Nat) : w.frozen? ⟨g, i, none⟩ = false := frozen_of_row w g i _ 51 h.1
theorem rv_q {w : World} {base g : Nat} {a : AN} {F : Nat → Prop} {vs : Nat → Value} (h : IsRV w base g a F vs) {o : Nat} (ho : o < 2) : w.cell? ⟨g, 2 + o, none⟩ = some (vs o) := by
  rw [rv_cell h]
  rcases (by omega : o = 0 ∨ o = 1) with rfl | rfl <;> rfl
theorem own_kept75 {w w' : World} {base n : Nat} {v : Value} {xs : List Value} {S : Nat → Prop} (h : w.ownsRow base 75 2 v n xs) (hk : Kept w w' S) (hn : ∀ k, v.ownBlock = some k → ¬ S k) : w'.ownsRow base 75 2 v n xs := by
  refine ⟨h.1, ?_⟩
  rcases h.2 with h1 | ⟨b, cap, cur, rfl, h1, h2, h3⟩
  · exact Or.inl h1
  · exact Or.inr ⟨b, cap, cur, rfl, h1, blk_kept h2 hk (hn b rfl), h3⟩
theorem isr_kept {w w' : World} {base g : Nat} {a : AN} {F S : Nat → Prop} (h : IsR w base g a F) (hk : Kept w w' S) (hn : ∀ k, F k → ¬ S k) : IsR w' base g a F := by
  obtain ⟨vs, h1, h2, h3, h4, h5⟩ := h
  exact ⟨vs, blk_kept h1 hk (hn g h4), fun o ho => ⟨own_kept75 (h2 o ho).1 hk (fun k e => hn k ((h2 o ho).2.2 k e)), (h2 o ho).2⟩, h3, h4, fun k hk' => ⟨(h5 k hk').1, Nat.lt_of_lt_of_le (h5 k hk').2 hk.1⟩⟩
def DidR (w w' : World) (base g : Nat) (a' : AN) (F : Nat → Prop) : Prop := ∃ F', IsR w' base g a' F' ∧ (∀ k, F' k → F k ∨ w.heap.size ≤ k) ∧ Kept w w' F ∧ Below base w w'
theorem didr_refl {w : World} {base g : Nat} {a : AN} {F : Nat → Prop} (h : IsR w base g a F) : DidR w w base g a F := ⟨F, h, fun k hk => Or.inl hk, Kept.refl _ _, Below.refl _ _⟩
theorem didr_drewN {w : World} {base g : Nat} {a : AN} {F : Nat → Prop} (h : IsR w base g a F) (m : Nat) : DidR w (w.drewN m) base g a F := ⟨F, h, fun k hk => Or.inl hk, (Kept.refl _ _).drewN m, pw_below_drewN (Below.refl _ _) m⟩
theorem didr_app {w w1 w2 : World} {base g : Nat} {a : AN} {F F1 : Nat → Prop} (h2 : ∀ k, F1 k → F k ∨ w.heap.size ≤ k) (h3 : Kept w w1 F) (h4 : Below base w w1) (k : DidR w1 w2 base g a F1) : DidR w w2 base g a F := by
  obtain ⟨F2, k1, k2, k3, k4⟩ := k
  refine ⟨F2, k1, fun i hi => ?_, h3.then_ k3 h2, h4.trans k4⟩
  rcases k2 i hi with h | h
  · exact h2 i h
  · exact Or.inr (Nat.le_trans h3.1 h)
theorem isr_set {w : World} {base g : Nat} {a a' : AN} {F : Nat → Prop} (h : IsR w base g a F) (i : Nat) (u : Value) (hc : ∀ vs, (rcells a vs).setIfInBounds i u = rcells a' vs) (hq : a'.L = a.L) :
    DidR w (w.setCell ⟨g, i, none⟩ u) base g a' F := by
  obtain ⟨vs, h1, h2, h3, h4, h5⟩ := h
  refine ⟨F, ⟨vs, ?_, fun o ho => ?_, h3, h4, fun k hk => by simpa using h5 k hk⟩, fun k hk => Or.inl hk, Kept.setCell (Kept.refl _ _) (Or.inl h4) u, (Below.refl _ _).setCell (h5 g h4).1 u⟩
  · rw [← hc]; exact heap_setCell_same w g i _ 51 u h1
  · rw [hq]; exact ⟨ownsRow_setCell_other (h2 o ho).1 (h2 o ho).2.1 u, (h2 o ho).2⟩
/-- A list's slice is stored anew. -/
theorem isr_store {w w1 : World} {base g : Nat} {a : AN} {F : Nat → Prop} {vs : Nat → Value} (h : IsRV w base g a F vs) {o : Nat} (ho : o < 2) {v1 : Value} {l : List DG}
    (hown : w1.ownsRow base 75 2 v1 l.length (flat2 l)) (hg : w.grownBy w1 (vs o).ownBlock) (hat : Newer w (vs o) v1) :
    w1.cell? ⟨g, 2 + o, none⟩ = some (vs o) ∧ w1.frozen? ⟨g, 2 + o, none⟩ = false ∧ DidR w (w1.setCell ⟨g, 2 + o, none⟩ v1) base g (a.setL o l) F := by
  have hlt := rv_lt h
  have hq := rv_q h ho
  obtain ⟨h1, h2, h3, h4, h5⟩ := h
  have hgo : some g ≠ (vs o).ownBlock := fun e => (h2 o ho).2.1 e.symm
  have hb1 : w1.heap[g]? = some (.cells (rcells a vs) 51 (0, 0)) := (hg.block g hlt hgo).trans h1
  have hc1 : w1.cell? ⟨g, 2 + o, none⟩ = some (vs o) := (World.cell?_of_block (hg.block g hlt hgo)).trans hq
  have hv1g : v1.ownBlock ≠ some g := by
    intro e
    rcases hat with k | ⟨b, k, hle⟩
    · exact hgo (e.symm.trans k)
    · rw [e] at k; cases k; omega
  have hv1 : ∀ k, v1.ownBlock = some k → F k ∨ w.heap.size ≤ k := by
    intro k hk
    rcases hat with e | ⟨b, e, hle⟩
    · exact Or.inl ((h2 o ho).2.2 k (e.symm.trans hk))
    · rw [e] at hk; cases hk; exact Or.inr hle
  have hkept : Kept w (w1.setCell ⟨g, 2 + o, none⟩ v1) (fun k => k = g ∨ (vs o).ownBlock = some k) :=
    Kept.setCell (S := fun k => k = g ∨ (vs o).ownBlock = some k) (Kept.of_grown hg (Kept.refl _ _) (fun k hk => Or.inl (Or.inr hk))) (Or.inl (Or.inl rfl)) v1
  have hfoot : ∀ k, (k = g ∨ (vs o).ownBlock = some k) → F k := fun k hk => by
    rcases hk with rfl | hk
    · exact h4
    · exact (h2 o ho).2.2 k hk
  have hother : ∀ p, p < 2 → p ≠ o → ∀ k, (vs p).ownBlock = some k → ¬ (k = g ∨ (vs o).ownBlock = some k) ∧ v1.ownBlock ≠ some k := by
    intro p hp hpo k hk
    have hne : (vs o).ownBlock ≠ some k := by
      rcases (by omega : (o = 0 ∧ p = 1) ∨ (o = 1 ∧ p = 0)) with ⟨rfl, rfl⟩ | ⟨rfl, rfl⟩
      · exact fun e => h3 k e hk
      · exact h3 k hk
    refine ⟨?_, ?_⟩
    · rintro (rfl | e)
      · exact (h2 p hp).2.1 hk
      · exact hne e
    · intro e
      rcases hat with k' | ⟨b, k', hle⟩
      · exact hne (k'.symm.trans e)
      · rw [k'] at e; cases e
        have := ((h2 p hp).1.lt k hk).2
        omega
  refine ⟨hc1, (World.frozen?_of_block (hg.block g hlt hgo)).trans (frozen_of_row w g _ _ 51 h1), fun k => F k ∨ v1.ownBlock = some k, ⟨fun k => if k = o then v1 else vs k, ?_, ?_, ?_, Or.inl h4, ?_⟩, ?_, hkept.mono hfoot, ?_⟩
  · refine (heap_setCell_same w1 g (2 + o) _ 51 v1 hb1).trans ?_
    rcases (by omega : o = 0 ∨ o = 1) with rfl | rfl <;> rfl
  · intro p hp
    by_cases e : p = o
    · subst e
      simp only [↓reduceIte, AN.setL]
      exact ⟨ownsRow_setCell_other hown hv1g v1, hv1g, fun k hk => Or.inr hk⟩
    · simp only [e, ↓reduceIte, AN.setL]
      exact ⟨own_kept75 (h2 p hp).1 hkept (fun k hk => (hother p hp e k hk).1), (h2 p hp).2.1, fun k hk => Or.inl ((h2 p hp).2.2 k hk)⟩
  · intro k
    rcases (by omega : o = 0 ∨ o = 1) with rfl | rfl
    · simp only [↓reduceIte, Nat.one_ne_zero]
      exact fun e1 e2 => (hother 1 (by omega) (by omega) k e2).2 e1
    · simp only [↓reduceIte, Nat.zero_ne_one]
      exact fun e1 => (hother 0 (by omega) (by omega) k e1).2
  · intro k hk
    rcases hk with hk | hk
    · exact ⟨(h5 k hk).1, by have := (h5 k hk).2; have := hkept.1; omega⟩
    · have := hown.lt k hk
      exact ⟨this.1, by simpa using this.2⟩
  · intro k hk
    rcases hk with hk | hk
    · exact Or.inl hk
    · exact hv1 k hk
  · have hbk : ∀ k, (vs o).ownBlock = some k → base ≤ k := fun k hk => ((h2 o ho).1.lt k hk).1
    exact ((Below.refl base w).grown hg (Nat.le_trans (h5 g h4).1 (Nat.le_of_lt hlt)) hbk).setCell (h5 g h4).1 v1

theorem r_new (w : World) (base : Nat) (hb : base ≤ w.heap.size) (most : Int) (h0 : 1 ≤ most) (h1 : most ≤ 64) :
    Calls Try.prog 16 #[.int .i64 most] w fun e w' => e = .returned (.pointer (some ⟨w.heap.size, 0, none⟩)) ∧ IsR w' base w.heap.size (afresh most) (fun k => k = w.heap.size) ∧ Kept w w' (fun _ => False) ∧ Below base w w' := by
  go_enter Try.func16, Try.ntmps16
  go_wp2
  go_ret
  refine ⟨rfl, ⟨fun _ => .slice none 0 0, heap_alloc_new w _, fun o ho => ⟨World.ownsRow_nil _ _ _ _, by simp [Value.ownBlock], by simp [Value.ownBlock]⟩, by simp [Value.ownBlock], rfl, ?_⟩, (Kept.refl _ _).alloc _, (Below.refl _ _).alloc hb _⟩
  rintro k rfl
  exact ⟨hb, by simp⟩
theorem r_new_none (w : World) (most : Int) (h : most < 1 ∨ 64 < most) : Calls Try.prog 16 #[.int .i64 most] w fun e w' => e = .returned (.pointer none) ∧ w = w' := by
  rcases h with h | h
  all_goals
    go_enter Try.func16, Try.ntmps16
    go_wp2
  all_goals go_ret
  all_goals exact ⟨rfl, rfl⟩
theorem r_waiting (w : World) (base g : Nat) (a : AN) (F : Nat → Prop) (h : IsR w base g a F) (way : Int) :
    Calls Try.prog 29 #[.pointer (some ⟨g, 0, none⟩), .int .i64 way] w fun e w' => e = .returned (.int .i64 (awaits a way)) ∧ w = w' := by
  obtain ⟨vs, hv⟩ := h
  by_cases hw : 0 ≤ way ∧ way < 2
  · obtain ⟨o, rfl⟩ : ∃ o : Nat, way = (o : Int) := ⟨way.toNat, by omega⟩
    have ho : o < 2 := by omega
    have e2 : awaits a (o : Int) = ((a.L o).length : Int) := by unfold awaits; rw [if_pos hw]; rfl
    rw [e2]
    have c1 := rv_q hv ho
    obtain ⟨ad, cap, hvs⟩ := own_len (hv.2.1 o ho).1
    rw [hvs] at c1
    clear hv e2
    generalize (a.L o).length = n at *
    rcases (by omega : o = 0 ∨ o = 1) with rfl | rfl
    all_goals
      go_enter Try.func29, Try.ntmps29
      go_wp2
      go_ret
      exact ⟨rfl, rfl⟩
  · have e2 : awaits a way = 0 := by unfold awaits; rw [if_neg hw]
    rw [e2]
    have n0 : (way == 0) = false := by simp; omega
    have n1 : (way == 1) = false := by simp; omega
    have d0 : ¬ way = 0 := by omega
    have d1 : ¬ way = 1 := by omega
    have b0 : (way != 0) = true := by simp; omega
    have b1 : (way != 1) = true := by simp; omega
    clear hv
    go_enter Try.func29, Try.ntmps29
    go_wp2
    all_goals go_ret
    all_goals exact ⟨rfl, rfl⟩
theorem r_waiting_none (w : World) (way : Int) : Calls Try.prog 29 #[.pointer none, .int .i64 way] w fun e w' => e = .returned (.int .i64 0) ∧ w = w' := by
  go_enter Try.func29, Try.ntmps29
  go_wp2
  all_goals go_ret
  all_goals exact ⟨rfl, rfl⟩

theorem info75 : (Try.prog.info? 75).map (fun i => (i.zero, i.size, i.bytes)) = some (some (.agg #[.string { data := #[] }, .int .u64 0]), 2, 24) := by kernel_rfl
theorem r_send_none (w : World) (way : Int) (bytes : ByteArray) (c d : Int) : Calls Try.prog 17 #[.pointer none, .int .i64 way, .string bytes, .int .u8 c, .int .u8 d] w fun e w' => e = .returned (.tuple #[.int .i64 0, .int .i64 1]) ∧ w = w' := by
  go_enter Try.func17, Try.ntmps17
  go_wp2
  go_ret2
  exact ⟨rfl, rfl⟩
theorem r_send_noway (w : World) (g : Nat) (way : Int) (hw : ¬ (0 ≤ way ∧ way < 2)) (bytes : ByteArray) (c d : Int) : Calls Try.prog 17 #[.pointer (some ⟨g, 0, none⟩), .int .i64 way, .string bytes, .int .u8 c, .int .u8 d] w fun e w' => e = .returned (.tuple #[.int .i64 0, .int .i64 2]) ∧ w = w' := by
  have n0 : (way == 0) = false := by simp; omega
  have n1 : (way == 1) = false := by simp; omega
  have d0 : ¬ way = 0 := by omega
  have d1 : ¬ way = 1 := by omega
  have b0 : (way != 0) = true := by simp; omega
  have b1 : (way != 1) = true := by simp; omega
  go_enter Try.func17, Try.ntmps17
  go_wp2
  all_goals go_ret2
  all_goals exact ⟨rfl, rfl⟩
theorem r_send_long (w : World) (g : Nat) (o : Nat) (ho : o < 2) (bytes : ByteArray) (hl : 4102 < bytes.size) (c d : Int) : Calls Try.prog 17 #[.pointer (some ⟨g, 0, none⟩), .int .i64 o, .string bytes, .int .u8 c, .int .u8 d] w fun e w' => e = .returned (.tuple #[.int .i64 0, .int .i64 3]) ∧ w = w' := by
  have hgt : ¬ ((bytes.size : Int) ≤ 4102) := by omega
  rcases (by omega : o = 0 ∨ o = 1) with rfl | rfl
  all_goals
    go_enter Try.func17, Try.ntmps17
    go_wp2
    go_ret2
    exact ⟨rfl, rfl⟩
end Go.Proofs.Ytjdehmclcdiijaa.Hp
