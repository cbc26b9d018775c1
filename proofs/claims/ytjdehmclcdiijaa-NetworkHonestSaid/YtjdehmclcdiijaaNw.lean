/- The network's state, and what its small calls make of it. -/
import Derived.Test.YtjdehmclcdiijaaHr
set_option linter.unusedVariables false
namespace Go.Proofs.Ytjdehmclcdiijaa.Hp
open Go.RowKit Go.Proofs.YtjdehmclcdiijaaW.PrintWords Go.Proofs.YtjdehmclcdiijaaW.PrintLast Go.Proofs.YtjdehmclcdiijaaW.PrintMore

structure NS where
  most : Int
  now : Int
  put : Int
  sent : Int
  lost : Int
  told : Int
  q : Nat → List D
def NS.cells (s : NS) (vs : Nat → Value) : Array Value := #[.int .i64 s.most, .int .u64 s.now, .int .i64 s.put, vs 0, vs 1, .int .i64 s.sent, .int .i64 s.lost, .int .i64 s.told]
def NS.setQ (s : NS) (o : Nat) (l : List D) : NS := { s with q := fun k => if k = o then l else s.q k }

/-- A network at block g; its blocks are among F. -/
def IsV (w : World) (base g : Nat) (s : NS) (F : Nat → Prop) (vs : Nat → Value) : Prop :=
  w.heap[g]? = some (.cells (s.cells vs) 66 (0, 0)) ∧
  (∀ o, o < 2 → w.ownsRow base 72 3 (vs o) (s.q o).length (flat (s.q o)) ∧ (vs o).ownBlock ≠ some g ∧ ∀ k, (vs o).ownBlock = some k → F k) ∧
  (∀ k, (vs 0).ownBlock = some k → (vs 1).ownBlock ≠ some k) ∧ F g ∧ (∀ k, F k → base ≤ k ∧ k < w.heap.size)
def IsN (w : World) (base g : Nat) (s : NS) (F : Nat → Prop) : Prop := ∃ vs, IsV w base g s F vs

theorem isv_lt {w : World} {base g : Nat} {s : NS} {F : Nat → Prop} {vs : Nat → Value} (h : IsV w base g s F vs) : g < w.heap.size := blk_lt h.1
theorem isv_cell {w : World} {base g : Nat} {s : NS} {F : Nat → Prop} {vs : Nat → Value} (h : IsV w base g s F vs) (i : Nat) : w.cell? ⟨g, i, none⟩ = (s.cells vs)[i]? := cell_of_row w g i _ 66 (0, 0) h.1
theorem isv_free {w : World} {base g : Nat} {s : NS} {F : Nat → Prop} {vs : Nat → Value} (h : IsV w base g s F vs) (i : Nat) : w.frozen? ⟨g, i, none⟩ = false := frozen_of_row w g i _ 66 h.1
theorem isv_qv {w : World} {base g : Nat} {s : NS} {F : Nat → Prop} {vs : Nat → Value} (h : IsV w base g s F vs) {o : Nat} (ho : o < 2) : QV w base ⟨g, 3 + o, none⟩ (vs o) (s.q o) := by
  refine ⟨?_, isv_free h _, (h.2.1 o ho).2.1, (h.2.1 o ho).1⟩
  rw [isv_cell h]
  rcases (by omega : o = 0 ∨ o = 1) with rfl | rfl <;> rfl

theorem own_kept {w w' : World} {base n : Nat} {v : Value} {xs : List Value} {S : Nat → Prop} (h : w.ownsRow base 72 3 v n xs) (hk : Kept w w' S) (hn : ∀ k, v.ownBlock = some k → ¬ S k) : w'.ownsRow base 72 3 v n xs := by
  refine ⟨h.1, ?_⟩
  rcases h.2 with h1 | ⟨b, cap, cur, rfl, h1, h2, h3⟩
  · exact Or.inl h1
  · exact Or.inr ⟨b, cap, cur, rfl, h1, blk_kept h2 hk (hn b rfl), h3⟩
theorem isn_kept {w w' : World} {base g : Nat} {s : NS} {F S : Nat → Prop} (h : IsN w base g s F) (hk : Kept w w' S) (hn : ∀ k, F k → ¬ S k) : IsN w' base g s F := by
  obtain ⟨vs, h1, h2, h3, h4, h5⟩ := h
  exact ⟨vs, blk_kept h1 hk (hn g h4), fun o ho => ⟨own_kept (h2 o ho).1 hk (fun k e => hn k ((h2 o ho).2.2 k e)), (h2 o ho).2⟩, h3, h4, fun k hk' => ⟨(h5 k hk').1, Nat.lt_of_lt_of_le (h5 k hk').2 hk.1⟩⟩

/-- What a network's call leaves. -/
def Did (w w' : World) (base g : Nat) (s' : NS) (F : Nat → Prop) : Prop :=
  ∃ F', IsN w' base g s' F' ∧ (∀ k, F' k → F k ∨ w.heap.size ≤ k) ∧ Kept w w' F ∧ Below base w w'
theorem did_refl {w : World} {base g : Nat} {s : NS} {F : Nat → Prop} (h : IsN w base g s F) : Did w w base g s F := ⟨F, h, fun k hk => Or.inl hk, Kept.refl _ _, Below.refl _ _⟩
theorem did_trans {w w1 w2 : World} {base g : Nat} {s1 s2 : NS} {F : Nat → Prop} (h : Did w w1 base g s1 F) (k : ∀ F1, IsN w1 base g s1 F1 → Did w1 w2 base g s2 F1) : Did w w2 base g s2 F := by
  obtain ⟨F1, h1, h2, h3, h4⟩ := h
  obtain ⟨F2, k1, k2, k3, k4⟩ := k F1 h1
  refine ⟨F2, k1, fun i hi => ?_, h3.then_ k3 h2, h4.trans k4⟩
  rcases k2 i hi with h | h
  · exact h2 i h
  · exact Or.inr (Nat.le_trans h3.1 h)
theorem did_from {w w0 w2 : World} {base g : Nat} {s2 : NS} {F : Nat → Prop} (h : Kept w w0 F) (hb : Below base w w0) (k : Did w0 w2 base g s2 F) : Did w w2 base g s2 F := by
  obtain ⟨F2, k1, k2, k3, k4⟩ := k
  refine ⟨F2, k1, fun i hi => ?_, h.then_ k3 (fun _ h => Or.inl h), hb.trans k4⟩
  rcases k2 i hi with h' | h'
  · exact Or.inl h'
  · exact Or.inr (Nat.le_trans h.1 h')

/-- A number's cell is stored. -/
theorem isn_set {w : World} {base g : Nat} {s s' : NS} {F : Nat → Prop} (h : IsN w base g s F) (i : Nat) (u : Value) (hc : ∀ vs, (s.cells vs).setIfInBounds i u = s'.cells vs) (hq : s'.q = s.q) :
    Did w (w.setCell ⟨g, i, none⟩ u) base g s' F := by
  obtain ⟨vs, h1, h2, h3, h4, h5⟩ := h
  refine ⟨F, ⟨vs, ?_, fun o ho => ?_, h3, h4, fun k hk => by simpa using h5 k hk⟩, fun k hk => Or.inl hk, Kept.setCell (Kept.refl _ _) (Or.inl h4) u, (Below.refl _ _).setCell (h5 g h4).1 u⟩
  · rw [← hc]; exact heap_setCell_same w g i _ 66 u h1
  · rw [hq]; exact ⟨ownsRow_setCell_other (h2 o ho).1 (h2 o ho).2.1 u, (h2 o ho).2⟩

/-- A queue is turned. -/
theorem isn_turned {w w' : World} {base g : Nat} {s : NS} {F : Nat → Prop} {vs : Nat → Value} (h : IsV w base g s F vs) {o : Nat} (ho : o < 2) {v1 : Value} {l : List D}
    (hq : QV w' base ⟨g, 3 + o, none⟩ v1 l) (ht : Turned w w' base g (3 + o) (vs o) v1) : Did w w' base g (s.setQ o l) F := by
  obtain ⟨h1, h2, h3, h4, h5⟩ := h
  obtain ⟨t1, t2, t3, t4⟩ := ht
  have hfoot : ∀ k, Foot g (vs o) k → F k := fun k hk => by
    rcases hk with rfl | hk
    · exact h4
    · exact (h2 o ho).2.2 k hk
  have hlt : ∀ k, v1.ownBlock = some k → base ≤ k ∧ k < w'.heap.size := fun k hk => hq.2.2.2.lt k hk
  have hv1 : ∀ k, v1.ownBlock = some k → F k ∨ w.heap.size ≤ k := by
    intro k hk
    rcases t3 with h | ⟨b, h, hle⟩
    · exact Or.inl ((h2 o ho).2.2 k (h.symm.trans hk))
    · rw [h] at hk; cases hk; exact Or.inr hle
  -- the other one's row
  have hother : ∀ p, p < 2 → p ≠ o → ∀ k, (vs p).ownBlock = some k → ¬ Foot g (vs o) k ∧ v1.ownBlock ≠ some k := by
    intro p hp hpo k hk
    have hne : (vs o).ownBlock ≠ some k := by
      rcases (by omega : (o = 0 ∧ p = 1) ∨ (o = 1 ∧ p = 0)) with ⟨rfl, rfl⟩ | ⟨rfl, rfl⟩
      · exact fun e => h3 k e hk
      · exact h3 k hk
    refine ⟨?_, ?_⟩
    · rintro (rfl | e)
      · exact (h2 p hp).2.1 hk
      · exact hne e
    · intro e
      rcases t3 with h | ⟨b, h, hle⟩
      · exact hne (h.symm.trans e)
      · rw [h] at e; cases e
        have := ((h2 p hp).1.lt k hk).2
        omega
  refine ⟨fun k => F k ∨ v1.ownBlock = some k, ⟨fun k => if k = o then v1 else vs k, ?_, ?_, ?_, Or.inl h4, ?_⟩, ?_, t1.mono hfoot, t2⟩
  · refine (t4.trans (heap_setCell_same w g (3 + o) _ 66 v1 h1)).trans ?_
    rcases (by omega : o = 0 ∨ o = 1) with rfl | rfl <;> rfl
  · intro p hp
    by_cases e : p = o
    · subst e
      simp only [↓reduceIte, NS.setQ]
      exact ⟨hq.2.2.2, hq.2.2.1, fun k hk => Or.inr hk⟩
    · simp only [e, ↓reduceIte, NS.setQ]
      exact ⟨own_kept (h2 p hp).1 t1 (fun k hk => (hother p hp e k hk).1), (h2 p hp).2.1, fun k hk => Or.inl ((h2 p hp).2.2 k hk)⟩
  · intro k
    rcases (by omega : o = 0 ∨ o = 1) with rfl | rfl
    · simp only [↓reduceIte, Nat.one_ne_zero]
      exact fun e1 e2 => (hother 1 (by omega) (by omega) k e2).2 e1
    · simp only [↓reduceIte, Nat.zero_ne_one]
      exact fun e1 => (hother 0 (by omega) (by omega) k e1).2
  · intro k hk
    rcases hk with hk | hk
    · exact ⟨(h5 k hk).1, Nat.lt_of_lt_of_le (h5 k hk).2 t1.1⟩
    · exact hlt k hk
  · intro k hk
    rcases hk with hk | hk
    · exact Or.inl hk
    · exact hv1 k hk

theorem is_calls (w : World) (g : Nat) (m : Int) (h : w.cell? ⟨g, 0, none⟩ = some (.int .i64 m)) : Calls Try.prog 24 #[.pointer (some ⟨g, 0, none⟩)] w fun e w' => e = .returned (.bool (decide (0 < m))) ∧ w = w' := by
  go_enter Try.func24, Try.ntmps24
  go_wp2
  go_ret
  exact ⟨rfl, rfl⟩
theorem is_nil (w : World) : Calls Try.prog 24 #[.pointer none] w fun e w' => e = .returned (.bool false) ∧ w = w' := by
  go_enter Try.func24, Try.ntmps24
  go_wp2
  go_ret
  exact ⟨rfl, rfl⟩
/-- Is there a network that may be asked at a way? -/
def mayB (m way : Int) : Bool := decide (0 < m) && decide (0 ≤ way) && decide (way < 2)
theorem may_calls (w : World) (g : Nat) (m way : Int) (h : w.cell? ⟨g, 0, none⟩ = some (.int .i64 m)) : Calls Try.prog 25 #[.pointer (some ⟨g, 0, none⟩), .int .i64 way] w fun e w' => e = .returned (.bool (mayB m way)) ∧ w = w' := by
  have HI := Lib.hid (is_calls w g m h)
  have e1 : mayB m way = (decide (0 < m) && decide (0 ≤ way) && decide (way < 2)) := rfl
  rw [e1]
  clear h e1
  generalize hb : decide (0 < m) = bb at *
  cases bb <;>
  · go_enter Try.func25, Try.ntmps25
    go_wp2_with fail
    refine (HI.out).mono ?_
    rintro e w2 ⟨rfl, rfl⟩
    go_wp2
    all_goals go_ret
    all_goals exact ⟨by first | (simp_all; done) | (simp_all; omega), rfl⟩
theorem may_nil (w : World) (way : Int) : Calls Try.prog 25 #[.pointer none, .int .i64 way] w fun e w' => e = .returned (.bool false) ∧ w = w' := by
  have HI := Lib.hid (is_nil w)
  go_enter Try.func25, Try.ntmps25
  go_wp2_with fail
  refine (HI.out).mono ?_
  rintro e w2 ⟨rfl, rfl⟩
  go_wp2
  go_ret
  exact ⟨rfl, rfl⟩

/-! The counters. -/
theorem add_calls (w : World) (g o : Nat) (x : Int) (h : w.cell? ⟨g, o, none⟩ = some (.int .i64 x)) (hz : w.frozen? ⟨g, o, none⟩ = false) (h0 : 0 ≤ x) (h1 : x < 1000000) :
    Calls Try.prog 26 #[.pointer (some ⟨g, o, none⟩), .int .i64 1] w fun e w' => e = .returned (.int .i64 (x + 1)) ∧ w' = w.setCell ⟨g, o, none⟩ (.int .i64 (x + 1)) := by
  have hadd := run_call_add (P := Try.prog) Try.func31 (by kernel_rfl) (by kernel_rfl) (by kernel_rfl) .i64 (by kernel_rfl) (y := 1) (s := x + 1) h hz (by simp [go_sem]; exact IntWalk.i64_in _ (by omega))
  clear h hz
  go_enter Try.func26, Try.ntmps26
  go_wp2
  go_ret
  exact ⟨rfl, rfl⟩
theorem load_calls (w : World) (g o : Nat) (x : Int) (h : w.cell? ⟨g, o, none⟩ = some (.int .i64 x)) :
    Calls Try.prog 30 #[.pointer (some ⟨g, o, none⟩)] w fun e w' => e = .returned (.int .i64 x) ∧ w = w' := by
  have hld := run_call_load (P := Try.prog) Try.func34 (by kernel_rfl) (by kernel_rfl) (by kernel_rfl) .i64 (by kernel_rfl) h
  clear h
  go_enter Try.func30, Try.ntmps30
  go_wp2
  go_ret
  exact ⟨rfl, rfl⟩

/-! A network's small calls: of a network with a most above 0; of one without; of none. -/
theorem tick_calls (w : World) (base g : Nat) (s : NS) (F : Nat → Prop) (h : IsN w base g s F) (hm : 0 < s.most) (h0 : 0 ≤ s.now) (h1 : s.now < 1000000) :
    Calls Try.prog 12 #[.pointer (some ⟨g, 0, none⟩)] w fun e w' => e = .returned (.tuple #[]) ∧ Did w w' base g { s with now := s.now + 1 } F := by
  have HD := Lib.hid (isn_set h 1 (.int .u64 (s.now + 1)) (s' := { s with now := s.now + 1 }) (fun vs => rfl) rfl)
  obtain ⟨vs, hv⟩ := h
  have c1 : w.cell? ⟨g, 1, none⟩ = some (.int .u64 s.now) := isv_cell hv 1
  have f1 := isv_free hv 1
  have HI := Lib.hid (is_calls w g s.most (isv_cell hv 0))
  rw [decide_eq_true hm] at HI
  clear hv
  go_enter Try.func12, Try.ntmps12
  go_wp2_with fail
  refine (HI.out).mono ?_
  rintro e w2 ⟨rfl, rfl⟩
  go_wp2
  go_end0
  exact ⟨rfl, HD.out⟩
theorem tick_none (w : World) (p : Option Addr) (h : Calls Try.prog 24 #[.pointer p] w fun e w' => e = .returned (.bool false) ∧ w = w') : Calls Try.prog 12 #[.pointer p] w fun e w' => e = .returned (.tuple #[]) ∧ w = w' := by
  have HI := Lib.hid h
  clear h
  go_enter Try.func12, Try.ntmps12
  go_wp2_with fail
  refine (HI.out).mono ?_
  rintro e w2 ⟨rfl, rfl⟩
  go_wp2
  go_end0
  exact ⟨rfl, rfl⟩
theorem now_calls (w : World) (base g : Nat) (s : NS) (F : Nat → Prop) (h : IsN w base g s F) (hm : 0 < s.most) :
    Calls Try.prog 14 #[.pointer (some ⟨g, 0, none⟩)] w fun e w' => e = .returned (.int .u64 s.now) ∧ w = w' := by
  obtain ⟨vs, hv⟩ := h
  have c1 : w.cell? ⟨g, 1, none⟩ = some (.int .u64 s.now) := isv_cell hv 1
  have HI := Lib.hid (is_calls w g s.most (isv_cell hv 0))
  rw [decide_eq_true hm] at HI
  clear hv
  go_enter Try.func14, Try.ntmps14
  go_wp2_with fail
  refine (HI.out).mono ?_
  rintro e w2 ⟨rfl, rfl⟩
  go_wp2
  go_ret
  exact ⟨rfl, rfl⟩
theorem now_none (w : World) (p : Option Addr) (h : Calls Try.prog 24 #[.pointer p] w fun e w' => e = .returned (.bool false) ∧ w = w') : Calls Try.prog 14 #[.pointer p] w fun e w' => e = .returned (.int .u64 0) ∧ w = w' := by
  have HI := Lib.hid h
  clear h
  go_enter Try.func14, Try.ntmps14
  go_wp2_with fail
  refine (HI.out).mono ?_
  rintro e w2 ⟨rfl, rfl⟩
  go_wp2
  go_ret
  exact ⟨rfl, rfl⟩
theorem sent_calls (w : World) (base g : Nat) (s : NS) (F : Nat → Prop) (h : IsN w base g s F) (hm : 0 < s.most) :
    Calls Try.prog 21 #[.pointer (some ⟨g, 0, none⟩)] w fun e w' => e = .returned (.int .i64 s.sent) ∧ w = w' := by
  obtain ⟨vs, hv⟩ := h
  have HL := Lib.hid (load_calls w g 5 s.sent (isv_cell hv 5))
  have HI := Lib.hid (is_calls w g s.most (isv_cell hv 0))
  rw [decide_eq_true hm] at HI
  clear hv
  go_enter Try.func21, Try.ntmps21
  go_wp2_with fail
  refine (HI.out).mono ?_
  rintro e w2 ⟨rfl, rfl⟩
  go_wp2_with fail
  refine (HL.out).mono ?_
  rintro e w2 ⟨rfl, rfl⟩
  go_wp2
  go_ret
  exact ⟨rfl, rfl⟩
theorem sent_none (w : World) (p : Option Addr) (h : Calls Try.prog 24 #[.pointer p] w fun e w' => e = .returned (.bool false) ∧ w = w') : Calls Try.prog 21 #[.pointer p] w fun e w' => e = .returned (.int .i64 0) ∧ w = w' := by
  have HI := Lib.hid h
  clear h
  go_enter Try.func21, Try.ntmps21
  go_wp2_with fail
  refine (HI.out).mono ?_
  rintro e w2 ⟨rfl, rfl⟩
  go_wp2
  go_ret
  exact ⟨rfl, rfl⟩
theorem lost_calls (w : World) (base g : Nat) (s : NS) (F : Nat → Prop) (h : IsN w base g s F) (hm : 0 < s.most) :
    Calls Try.prog 22 #[.pointer (some ⟨g, 0, none⟩)] w fun e w' => e = .returned (.int .i64 s.lost) ∧ w = w' := by
  obtain ⟨vs, hv⟩ := h
  have HL := Lib.hid (load_calls w g 6 s.lost (isv_cell hv 6))
  have HI := Lib.hid (is_calls w g s.most (isv_cell hv 0))
  rw [decide_eq_true hm] at HI
  clear hv
  go_enter Try.func22, Try.ntmps22
  go_wp2_with fail
  refine (HI.out).mono ?_
  rintro e w2 ⟨rfl, rfl⟩
  go_wp2_with fail
  refine (HL.out).mono ?_
  rintro e w2 ⟨rfl, rfl⟩
  go_wp2
  go_ret
  exact ⟨rfl, rfl⟩
theorem lost_none (w : World) (p : Option Addr) (h : Calls Try.prog 24 #[.pointer p] w fun e w' => e = .returned (.bool false) ∧ w = w') : Calls Try.prog 22 #[.pointer p] w fun e w' => e = .returned (.int .i64 0) ∧ w = w' := by
  have HI := Lib.hid h
  clear h
  go_enter Try.func22, Try.ntmps22
  go_wp2_with fail
  refine (HI.out).mono ?_
  rintro e w2 ⟨rfl, rfl⟩
  go_wp2
  go_ret
  exact ⟨rfl, rfl⟩
theorem told_calls (w : World) (base g : Nat) (s : NS) (F : Nat → Prop) (h : IsN w base g s F) (hm : 0 < s.most) :
    Calls Try.prog 23 #[.pointer (some ⟨g, 0, none⟩)] w fun e w' => e = .returned (.int .i64 s.told) ∧ w = w' := by
  obtain ⟨vs, hv⟩ := h
  have HL := Lib.hid (load_calls w g 7 s.told (isv_cell hv 7))
  have HI := Lib.hid (is_calls w g s.most (isv_cell hv 0))
  rw [decide_eq_true hm] at HI
  clear hv
  go_enter Try.func23, Try.ntmps23
  go_wp2_with fail
  refine (HI.out).mono ?_
  rintro e w2 ⟨rfl, rfl⟩
  go_wp2_with fail
  refine (HL.out).mono ?_
  rintro e w2 ⟨rfl, rfl⟩
  go_wp2
  go_ret
  exact ⟨rfl, rfl⟩
theorem told_none (w : World) (p : Option Addr) (h : Calls Try.prog 24 #[.pointer p] w fun e w' => e = .returned (.bool false) ∧ w = w') : Calls Try.prog 23 #[.pointer p] w fun e w' => e = .returned (.int .i64 0) ∧ w = w' := by
  have HI := Lib.hid h
  clear h
  go_enter Try.func23, Try.ntmps23
  go_wp2_with fail
  refine (HI.out).mono ?_
  rintro e w2 ⟨rfl, rfl⟩
  go_wp2
  go_ret
  exact ⟨rfl, rfl⟩
/-- How many wait on a way. -/
def waits (s : NS) (way : Int) : Int := if 0 ≤ way ∧ way < 2 then (s.q way.toNat).length else 0
theorem own_len {w : World} {base e n sz : Nat} {v : Value} {xs : List Value} (h : w.ownsRow base e sz v n xs) : ∃ a cap, v = .slice a n cap := by
  rcases h.2 with ⟨rfl, rfl⟩ | ⟨g, cap, cur, rfl, _⟩
  · exact ⟨_, _, rfl⟩
  · exact ⟨_, _, rfl⟩
theorem waiting_calls (w : World) (base g : Nat) (s : NS) (F : Nat → Prop) (h : IsN w base g s F) (hm : 0 < s.most) (way : Int) :
    Calls Try.prog 13 #[.pointer (some ⟨g, 0, none⟩), .int .i64 way] w fun e w' => e = .returned (.int .i64 (waits s way)) ∧ w = w' := by
  obtain ⟨vs, hv⟩ := h
  have HM := Lib.hid (may_calls w g s.most way (isv_cell hv 0))
  by_cases hw : 0 ≤ way ∧ way < 2
  · have e1 : mayB s.most way = true := by unfold mayB; rw [decide_eq_true hm, decide_eq_true hw.1, decide_eq_true hw.2]; rfl
    rw [e1] at HM
    obtain ⟨o, rfl⟩ : ∃ o : Nat, way = (o : Int) := ⟨way.toNat, by omega⟩
    have ho : o < 2 := by omega
    have e2 : waits s (o : Int) = ((s.q o).length : Int) := by unfold waits; rw [if_pos hw]; rfl
    rw [e2]
    have hq := isv_qv hv ho
    obtain ⟨a, cap, hvs⟩ := own_len hq.2.2.2
    have c1 := hq.1
    rw [hvs] at c1
    clear hq hv e1 e2
    generalize (s.q o).length = n at *
    go_enter Try.func13, Try.ntmps13
    go_wp2_with fail
    refine (HM.out).mono ?_
    rintro e w2 ⟨rfl, rfl⟩
    go_wp2
    go_ret
    exact ⟨rfl, rfl⟩
  · have e1 : mayB s.most way = false := by
      unfold mayB
      by_cases h0 : 0 ≤ way
      · rw [decide_eq_false (p := way < 2) (by omega), Bool.and_false]
      · rw [decide_eq_false h0, Bool.and_false, Bool.false_and]
    rw [e1] at HM
    have e2 : waits s way = 0 := by unfold waits; rw [if_neg hw]
    rw [e2]
    clear hv
    go_enter Try.func13, Try.ntmps13
    go_wp2_with fail
    refine (HM.out).mono ?_
    rintro e w2 ⟨rfl, rfl⟩
    go_wp2
    go_ret
    exact ⟨rfl, rfl⟩
theorem waiting_none (w : World) (p : Option Addr) (way : Int) (h : Calls Try.prog 25 #[.pointer p, .int .i64 way] w fun e w' => e = .returned (.bool false) ∧ w = w') : Calls Try.prog 13 #[.pointer p, .int .i64 way] w fun e w' => e = .returned (.int .i64 0) ∧ w = w' := by
  have HI := Lib.hid h
  clear h
  go_enter Try.func13, Try.ntmps13
  go_wp2_with fail
  refine (HI.out).mono ?_
  rintro e w2 ⟨rfl, rfl⟩
  go_wp2
  go_ret
  exact ⟨rfl, rfl⟩
/-- New. -/
def fresh (most : Int) : NS := ⟨most, 0, 0, 0, 0, 0, fun _ => []⟩
theorem new_calls (w : World) (base : Nat) (hb : base ≤ w.heap.size) (most : Int) (h0 : 1 ≤ most) (h1 : most ≤ 64) :
    Calls Try.prog 7 #[.int .i64 most] w fun e w' => e = .returned (.pointer (some ⟨w.heap.size, 0, none⟩)) ∧ IsN w' base w.heap.size (fresh most) (fun k => k = w.heap.size) ∧ Kept w w' (fun _ => False) ∧ Below base w w' := by
  go_enter Try.func7, Try.ntmps7
  go_wp2
  go_ret
  refine ⟨rfl, ⟨fun _ => .slice none 0 0, heap_alloc_new w _, fun o ho => ⟨World.ownsRow_nil _ _ _ _, by simp [Value.ownBlock], by simp [Value.ownBlock]⟩, by simp [Value.ownBlock], rfl, ?_⟩, (Kept.refl _ _).alloc _, (Below.refl _ _).alloc hb _⟩
  rintro k rfl
  exact ⟨hb, by simp⟩
theorem new_none (w : World) (most : Int) (h : most < 1 ∨ 64 < most) : Calls Try.prog 7 #[.int .i64 most] w fun e w' => e = .returned (.pointer none) ∧ w = w' := by
  rcases h with h | h
  all_goals
    go_enter Try.func7, Try.ntmps7
    go_wp2
  all_goals go_ret
  all_goals exact ⟨rfl, rfl⟩
end Go.Proofs.Ytjdehmclcdiijaa.Hp
