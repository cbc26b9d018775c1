/- container/heap over the network's queue: Push and Pop. -/
import Derived.Test.YtjdehmclcdiijaaHq
import Derived.WalkSmall
set_option linter.unusedVariables false
namespace Go.Proofs.Ytjdehmclcdiijaa.Hp
open Go.RowKit Go.Proofs.YtjdehmclcdiijaaW.PrintWords Go.Proofs.YtjdehmclcdiijaaW.PrintLast Go.Proofs.YtjdehmclcdiijaaW.PrintMore

/-- A queue, empty or not. -/
def QV (w : World) (base : Nat) (a : Addr) (v : Value) (l : List D) : Prop :=
  w.cell? a = some v ∧ w.frozen? a = false ∧ v.ownBlock ≠ some a.block ∧ w.ownsRow base 72 3 v l.length (flat l)
theorem own_shape {w : World} {base e n s : Nat} {v : Value} {xs : List Value} (h : w.ownsRow base e s v (n + 1) xs) : ∃ g cap, v = .slice (some ⟨g, 0, none⟩) (n + 1) cap := by
  rcases h.2 with ⟨_, h0⟩ | ⟨g, cap, cur, rfl, _⟩
  · omega
  · exact ⟨g, cap, rfl⟩
theorem qv_q {w : World} {base : Nat} {a : Addr} {v : Value} {l : List D} (h : QV w base a v l) (hl : 0 < l.length) : ∃ b cap, v = .slice (some ⟨b, 0, none⟩) l.length cap ∧ Q w base a b cap l := by
  obtain ⟨h1, h2, h3, h4⟩ := h
  obtain ⟨n, hn⟩ : ∃ n, l.length = n + 1 := ⟨l.length - 1, by omega⟩
  have h4' := h4
  rw [hn] at h4'
  obtain ⟨b, cap, rfl⟩ := own_shape h4'
  rw [← hn] at h1 h4
  refine ⟨b, cap, by rw [hn], h1, h2, ?_, h4⟩
  intro e
  exact h3 (by simp [Value.ownBlock, e])
theorem info72 : (Try.prog.info? 72).map (fun i => (i.zero, i.size, i.bytes)) = some (some (.agg #[.int .u64 0, .int .i64 0, .string { data := #[] }]), 3, 32) := by kernel_rfl
/-- Of a block one cell alone is written. -/
def Cell1 (w w' : World) (a : Addr) (u : Value) : Prop := w'.heap[a.block]? = (w.setCell a u).heap[a.block]?
theorem cell1_set {w w1 : World} {a : Addr} (h : w1.heap[a.block]? = w.heap[a.block]?) (u : Value) : Cell1 w (w1.setCell a u) a u := by
  unfold Cell1 World.setCell
  simp [Array.getElem?_modify, h]
theorem cell1_drew {w w1 : World} {a : Addr} {u : Value} (h : Cell1 w w1 a u) {w2 : World} (h2 : w2.heap[a.block]? = w1.heap[a.block]?) : Cell1 w w2 a u := h2.trans h
theorem cell1_from {w w1 w2 : World} {a : Addr} {u : Value} (h : w1.heap[a.block]? = w.heap[a.block]?) (k : Cell1 w1 w2 a u) : Cell1 w w2 a u := by
  refine k.trans ?_
  unfold World.setCell
  simp [Array.getElem?_modify, h]
/-- The blocks that a queue's call may write. -/
def Foot (g : Nat) (v : Value) (k : Nat) : Prop := k = g ∨ v.ownBlock = some k
/-- The row's block afterwards: the same, or a new one. -/
def Newer (w : World) (v v1 : Value) : Prop := v1.ownBlock = v.ownBlock ∨ ∃ b, v1.ownBlock = some b ∧ w.heap.size ≤ b

theorem ta72 (x : Value) (w : World) : (Instr.typeAssert (.iface 72 x) 20 72 false).run Try.prog w = .ok x w := by kernel_rfl

theorem alloc_drew (w : World) (o : Obj) : (w.alloc o).drew = w.drew.alloc o := rfl
theorem flat_one (d : D) : flat [d] = [.int .u64 d.due, .int .i64 d.num, .string d.bytes] := rfl
theorem pushed {w w1 : World} {base : Nat} {a : Addr} {v v1 : Value} {l : List D} {d : D} (h : QV w base a v l) (ha : base ≤ a.block)
    (hown : w1.ownsRow base 72 3 v1 (l.length + 1) (flat l ++ [.int .u64 d.due, .int .i64 d.num, .string d.bytes])) (hg : (w.drew).grownBy w1 v.ownBlock) (hat : v1.ownBlock = v.ownBlock ∨ ∃ b, v1.ownBlock = some b ∧ w.heap.size ≤ b) :
    w1.cell? a = some v ∧ w1.frozen? a = false ∧ QV (w1.setCell a v1) base a v1 (l ++ [d]) ∧ Kept w (w1.setCell a v1) (Foot a.block v) ∧ Below base w (w1.setCell a v1) ∧ Newer w v v1 ∧ Cell1 w (w1.setCell a v1) a v1 := by
  obtain ⟨h1, h2, h3, h4⟩ := h
  have hlt : a.block < w.heap.size := World.block_lt_of_cell? w a h1
  have hgw : w.grownBy w1 v.ownBlock := grown_undrew hg
  have hne : some a.block ≠ v.ownBlock := fun e => h3 e.symm
  have hb := hgw.block a.block hlt hne
  have c1 : w1.cell? a = some v := (World.cell?_of_block hb).trans h1
  have c2 : w1.frozen? a = false := (World.frozen?_of_block hb).trans h2
  have hn1 : v1.ownBlock ≠ some a.block := by
    intro e
    rcases hat with h | ⟨b, h, hle⟩
    · exact h3 (h.symm.trans e)
    · rw [e] at h; cases h; omega
  have hbase : ∀ k, v.ownBlock = some k → base ≤ k := fun k hk => (h4.lt k hk).1
  refine ⟨c1, c2, ⟨World.cell?_setCell_same w1 a _ c1, ?_, hn1, ?_⟩, ?_, ?_, hat, cell1_set hb v1⟩
  · rw [World.frozen?_setCell]; exact c2
  · rw [flat_append, flat_one, List.length_append]
    exact ownsRow_setCell_other hown hn1 v1
  · exact Kept.setCell (S := Foot a.block v) (Kept.of_grown hgw (Kept.refl _ _) (fun k hk => Or.inl (Or.inr hk))) (Or.inl (Or.inl rfl)) v1
  · exact ((Below.refl base w).grown hgw (Nat.le_trans ha (Nat.le_of_lt hlt)) hbase).setCell ha v1

set_option maxHeartbeats 2000000 in
theorem qpush_calls (w : World) (base : Nat) (a : Addr) (v : Value) (l : List D) (d : D) (h : QV w base a v l) (ha : base ≤ a.block) (hl : l.length ≤ 1000) :
    Calls Try.prog 55 #[.pointer (some a), .iface 72 d.val] w fun e w' => e = .returned (.tuple #[]) ∧ ∃ v1, QV w' base a v1 (l ++ [d]) ∧ Kept w w' (Foot a.block v) ∧ Below base w w' ∧ Newer w v v1 ∧ Cell1 w w' a v1 := by
  have H := Lib.hid h
  obtain ⟨c1, c2, c3, c4⟩ := h
  have hlt : a.block < w.heap.size := World.block_lt_of_cell? w a c1
  have C3 := Lib.hid c3
  have C4 := Lib.hid c4
  clear c3 c4
  unfold D.val
  have hta := ta72
  go_enter Try.func55, Try.ntmps55
  go_wp2
  have HL := Lib.hid (show (l.length + 1) * 32 ≤ 140737488355328 by omega)
  have hbase : base ≤ w.drew.heap.size := Nat.le_trans ha (Nat.le_of_lt hlt)
  go_region_law (rw [alloc_drew]; refine step_append_cells (w0 := w.drew) base (by rfl) (.tmp 7) (.tmp 10) 58 72 (.agg #[.int .u64 0, .int .i64 0, .string { data := #[] }]) 3 32 (by rfl) Try.underlying58 info72 rfl (by decide) (by decide) v l.length (flat l) [.int .u64 d.due, .int .i64 d.num, .string d.bytes] (by simp [Act.eval]) (by simp [Act.eval]) rfl (by intro u hu; simp at hu; rcases hu with rfl | rfl | rfl <;> rfl) (by exact C4.out) (Below.refl _ _) (by exact hbase) HL.out ?_; intro v1 w1 hown1 _ hg1 hat1; obtain ⟨g1, cap1, rfl⟩ := own_shape hown1; have HW1 := Lib.hid (pushed H.out ha hown1 hg1 hat1); have hc1 := HW1.out.1; have hf1 := HW1.out.2.1; clear hown1 hg1 hat1)
  go_wp2
  all_goals (go_end0; exact ⟨rfl, _, HW1.out.2.2.1, HW1.out.2.2.2.1, HW1.out.2.2.2.2.1, HW1.out.2.2.2.2.2.1, HW1.out.2.2.2.2.2.2⟩)

theorem qv_alloc {w : World} {base : Nat} {a : Addr} {v : Value} {l : List D} (h : QV w base a v l) (o : Obj) : QV (w.alloc o) base a v l := by
  obtain ⟨h1, h2, h3, h4⟩ := h
  have hb : (w.alloc o).heap[a.block]? = w.heap[a.block]? := Below.heap_alloc w o _ (World.block_lt_of_cell? w a h1)
  exact ⟨(World.cell?_of_block hb).trans h1, (World.frozen?_of_block hb).trans h2, h3, World.ownsRow.alloc h4 o⟩
/-- The last one is let go. -/
theorem popped {w : World} {base b cap : Nat} {a : Addr} {l : List D} (h : Q w base a b cap l) (hl : 0 < l.length) (o : Obj) (ha : base ≤ a.block) :
    QV ((w.setCell a (.slice (some ⟨b, 0, none⟩) (l.length - 1) cap)).alloc o) base a (.slice (some ⟨b, 0, none⟩) (l.length - 1) cap) (l.take (l.length - 1)) ∧
    Kept w ((w.setCell a (.slice (some ⟨b, 0, none⟩) (l.length - 1) cap)).alloc o) (Foot a.block (.slice (some ⟨b, 0, none⟩) l.length cap)) ∧ Below base w ((w.setCell a (.slice (some ⟨b, 0, none⟩) (l.length - 1) cap)).alloc o) ∧ Cell1 w ((w.setCell a (.slice (some ⟨b, 0, none⟩) (l.length - 1) cap)).alloc o) a (.slice (some ⟨b, 0, none⟩) (l.length - 1) cap) := by
  obtain ⟨h1, h2, h3, h4⟩ := h
  have hlt : a.block < w.heap.size := World.block_lt_of_cell? w a h1
  have hf : flat l = flat (l.take (l.length - 1)) ++ flat (l.drop (l.length - 1)) := by rw [← flat_append, List.take_append_drop]
  have hown : w.ownsRow base 72 3 (.slice (some ⟨b, 0, none⟩) (l.length - 1) cap) (l.length - 1) (flat (l.take (l.length - 1))) := by
    refine ownsRow_pop (last := flat (l.drop (l.length - 1))) (by rw [flat_len, List.length_take]; congr 1; omega) ?_
    rw [← hf, show l.length - 1 + 1 = l.length by omega]
    exact h4
  have hbb : (Value.slice (some ⟨b, 0, none⟩) (l.length - 1) cap).ownBlock ≠ some a.block := by simp [Value.ownBlock]; exact fun e => h3 e.symm
  refine ⟨qv_alloc ⟨World.cell?_setCell_same _ a _ h1, ?_, hbb, ?_⟩ o, ?_, ?_, Below.heap_alloc _ o _ (by simpa using hlt)⟩
  · rw [World.frozen?_setCell]; exact h2
  · rw [List.length_take, show min (l.length - 1) l.length = l.length - 1 by omega]
    exact ownsRow_setCell_other hown hbb _
  · exact Kept.alloc (Kept.setCell (S := Foot a.block _) (Kept.refl _ _) (Or.inl (Or.inl rfl)) _) o
  · exact ((Below.refl base w).setCell ha _).alloc (by simp; exact Nat.le_trans ha (Nat.le_of_lt hlt)) o

theorem row_cap {w : World} {base b cap : Nat} {l : List D} (h : Row w base b cap l) : l.length ≤ cap := by
  rcases h.2 with ⟨h', _⟩ | ⟨g, cap', cur, hv, _, _, hn, _⟩
  · cases h'
  · cases hv; exact hn
set_option maxHeartbeats 2000000 in
theorem qpop_calls (w : World) (base b cap g o : Nat) (l : List D) (h : Q w base ⟨g, o, none⟩ b cap l) (n : Nat) (hn : l.length = n + 1) (ha : base ≤ g) (hl : l.length ≤ 1000) :
    Calls Try.prog 54 #[.pointer (some ⟨g, o, none⟩)] w fun e w' => e = .returned (.iface 72 (l.getD n d0).val) ∧ QV w' base ⟨g, o, none⟩ (.slice (some ⟨b, 0, none⟩) n cap) (l.take n) ∧
      Kept w w' (Foot g (.slice (some ⟨b, 0, none⟩) l.length cap)) ∧ Below base w w' ∧ Cell1 w w' ⟨g, o, none⟩ (.slice (some ⟨b, 0, none⟩) n cap) := by
  have H := Lib.hid h
  have HP := Lib.hid (fun o' => popped h (by omega) o' ha)
  obtain ⟨c1, c2, c3, c4⟩ := h
  have hlt : g < w.heap.size := World.block_lt_of_cell? w _ c1
  obtain ⟨r1, r2, r3⟩ := row_cells c4 (i := n) (by omega)
  have hcap := row_cap c4
  clear c3 c4
  rw [hn] at c1 hcap
  rw [hn] at hl
  rw [hn]
  have HN := Lib.hid hn
  clear hn
  rw [HN.out, show n + 1 - 1 = n by omega] at HP
  generalize l.getD n d0 = x at *
  unfold D.val
  go_enter Try.func54, Try.ntmps54
  go_wp2
  go_ret
  exact ⟨rfl, (HP.out _).1, (HP.out _).2.1, (HP.out _).2.2.1, (HP.out _).2.2.2⟩

/-- What Push makes of a row; what Pop does, and the one it tells. -/
def hpush (l : List D) (d : D) : List D := hup (l ++ [d]) l.length
def hturn (l : List D) : List D := hdown (swp l 0 (l.length - 1)) 0 (l.length - 1)
def hrest (l : List D) : List D := (hturn l).take (l.length - 1)
def htop (l : List D) : D := (hturn l).getD (l.length - 1) d0
theorem hup_len (l : List D) (j : Nat) : (hup l j).length = l.length := by
  induction j using Nat.strongRecOn generalizing l with
  | ind j ih =>
    rw [hup]
    split
    · rfl
    · rw [ih _ (by omega), swp_len]
theorem hdown_len (n : Nat) (l : List D) (i : Nat) : (hdown l i n).length = l.length := by
  induction hk : n - i using Nat.strongRecOn generalizing l i with
  | ind k ih =>
    rw [hdown]
    split
    · rfl
    · have := child_gt l i n
      have := child_lt (l := l) (i := i) (n := n) (by omega)
      rw [ih _ (by omega) _ _ rfl, swp_len]

/-- What a network's call leaves of the world. -/
def Turned (w w' : World) (base g o : Nat) (v v1 : Value) : Prop := Kept w w' (Foot g v) ∧ Below base w w' ∧ Newer w v v1 ∧ Cell1 w w' ⟨g, o, none⟩ v1

set_option maxHeartbeats 2000000 in
theorem hpush_calls (w : World) (base g o : Nat) (v : Value) (l : List D) (d : D) (h : QV w base ⟨g, o, none⟩ v l) (ha : base ≤ g) (hl : l.length ≤ 900) :
    Calls Try.prog 27 #[.iface 70 (.pointer (some ⟨g, o, none⟩)), .iface 72 d.val] w fun e w' => e = .returned (.tuple #[]) ∧ ∃ v1, QV w' base ⟨g, o, none⟩ v1 (hpush l d) ∧ Turned w w' base g o v v1 := by
  have HP := Lib.hid (qpush_calls w base ⟨g, o, none⟩ v l d h ha (by omega))
  clear h
  have hm := m_push w ⟨g, o, none⟩
  generalize hx : Value.iface 72 d.val = x at *
  go_enter Try.func27, Try.ntmps27
  go_wp2_with fail
  refine (HP.out).mono ?_
  rintro e w2 ⟨rfl, v1, hQ, hK, hB, hN, hC⟩
  have HC := Lib.hid hC
  clear hC
  obtain ⟨b, cap, rfl, hq⟩ := qv_q hQ (by simp)
  have HQ := Lib.hid hq
  have hml := m_len hq.1
  have HU := Lib.hid (up_calls w2 base b cap ⟨g, o, none⟩ (l ++ [d]) hq l.length (by simp) (by simp; omega))
  have HL := Lib.hid (len_calls w2 (some ⟨b, 0, none⟩) (l.length + 1) cap)
  have hll : (l ++ [d]).length = l.length + 1 := by simp
  have HK := Lib.hid hK
  have HB := Lib.hid hB
  have HN := Lib.hid hN
  clear hQ hK hB hq hN
  rw [hll] at hml
  have HLL := Lib.hid hll
  clear hll
  go_wp2_with fail
  refine (HL.out).mono ?_
  rintro e w3 ⟨rfl, hw⟩
  obtain rfl := hw.symm
  clear hw
  go_wp2_with fail
  refine (HU.out).mono ?_
  rintro e w3 ⟨rfl, hR, hG⟩
  have HR := Lib.hid hR
  have HG := Lib.hid hG
  clear hR hG
  go_wp2
  go_end0
  have hf : ∀ k, (Value.slice (some ⟨b, 0, none⟩) (l ++ [d]).length cap).ownBlock = some k → k = b := by intro k hk; simpa [Value.ownBlock] using hk.symm
  have hbb : Foot g v b ∨ w.heap.size ≤ b := by
    rcases HN.out with h | ⟨b', h, hle⟩
    · exact Or.inl (Or.inr (h.symm.trans rfl))
    · simp [Value.ownBlock] at h; subst h; exact Or.inr hle
  have hQ3 : Q w3 base ⟨g, o, none⟩ b cap (hpush l d) := q_turned HQ.out (hup_len _ _) HR.out HG.out
  have hlen : (hpush l d).length = (l ++ [d]).length := hup_len _ _
  have hblk : w3.heap[g]? = w2.heap[g]? := HG.out.block g (World.block_lt_of_cell? w2 _ HQ.out.1) (by simpa using HQ.out.2.2.1)
  refine ⟨rfl, _, ⟨hQ3.1, hQ3.2.1, ?_, hQ3.2.2.2⟩, ?_, ?_, ?_, ?_⟩
  · simp [Value.ownBlock]; exact fun e => hQ3.2.2.1 e.symm
  · exact Kept.of_grown HG.out HK.out (fun k hk => by cases hk; exact hbb)
  · refine HB.out.grown HG.out ?_ (fun k hk => by cases hk; exact (World.ownsRow.lt HQ.out.2.2.2 b rfl).1)
    exact Nat.le_trans ha (Nat.le_of_lt (World.block_lt_of_cell? w2 _ HQ.out.1))
  · rcases HN.out with h | ⟨b', h, hle⟩
    · exact Or.inl h
    · simp [Value.ownBlock] at h; subst h; exact Or.inr ⟨_, rfl, hle⟩
  · rw [hlen]; exact cell1_drew HC.out hblk

set_option maxHeartbeats 2000000 in
theorem hpop_calls (w : World) (base g o : Nat) (v : Value) (l : List D) (h : QV w base ⟨g, o, none⟩ v l) (hl0 : 0 < l.length) (ha : base ≤ g) (hl : l.length ≤ 900) :
    Calls Try.prog 28 #[.iface 70 (.pointer (some ⟨g, o, none⟩))] w fun e w' => e = .returned (.iface 72 (htop l).val) ∧ ∃ v1, QV w' base ⟨g, o, none⟩ v1 (hrest l) ∧ Turned w w' base g o v v1 := by
  obtain ⟨b, cap, rfl, hq⟩ := qv_q h hl0
  clear h
  obtain ⟨n, hn⟩ : ∃ n, l.length = n + 1 := ⟨l.length - 1, by omega⟩
  have hml := m_len hq.1
  have hms := m_swap hq.1
  have HL := Lib.hid (len_calls w (some ⟨b, 0, none⟩) (n + 1) cap)
  have HS := Lib.hid (swap_calls w base b cap l hq.2.2.2 0 n (by omega) (by omega) (by omega))
  have HQ := Lib.hid hq
  clear hq
  have HN := Lib.hid hn
  rw [hn] at hml hms HS
  have hn9 : n ≤ 900 := by omega
  clear hn hl hl0
  rw [HN.out]
  go_enter Try.func28, Try.ntmps28
  go_wp2_with fail
  refine (HL.out).mono ?_
  rintro e w3 ⟨rfl, hw⟩
  obtain rfl := hw.symm
  clear hw
  go_wp2_with fail
  refine (HS.out).mono ?_
  rintro e w2 ⟨rfl, hR2, hG2⟩
  have hQ2 : Q w2 base ⟨g, o, none⟩ b cap (swp l 0 n) := q_turned HQ.out (swp_len _ _ _) hR2 hG2
  have HQ2 := Lib.hid hQ2
  have HG2 := Lib.hid hG2
  have HD := Lib.hid (down_calls w2 base b cap ⟨g, o, none⟩ (swp l 0 n) hQ2 0 n (by rw [swp_len, HN.out]; omega) (by rw [swp_len, HN.out]; omega) (by rw [swp_len, HN.out]; omega))
  clear hQ2 hG2 hR2
  go_wp2_with fail
  refine (HD.out).mono ?_
  rintro e w3 ⟨⟨r, rfl⟩, hR3, hG3⟩
  have hQ3 : Q w3 base ⟨g, o, none⟩ b cap (hdown (swp l 0 n) 0 n) := q_turned HQ2.out (hdown_len _ _ _) hR3 hG3
  have hlen : (hdown (swp l 0 n) 0 n).length = n + 1 := by rw [hdown_len, swp_len, HN.out]
  have HP := Lib.hid (qpop_calls w3 base b cap g o (hdown (swp l 0 n) 0 n) hQ3 n hlen ha (by rw [hlen]; omega))
  have HG3 := Lib.hid hG3
  have HQ3 := Lib.hid hQ3
  clear hQ3 hG3 hR3
  have hmp := m_pop w3 ⟨g, o, none⟩
  have et : htop l = (hdown (swp l 0 n) 0 n).getD n d0 := by unfold htop hturn; rw [HN.out]; rfl
  have er : hrest l = (hdown (swp l 0 n) 0 n).take n := by unfold hrest hturn; rw [HN.out]; rfl
  rw [← et, ← er, hlen] at HP
  clear et er
  generalize hx : Value.iface 72 (htop l).val = x at *
  go_wp2_with fail
  refine (HP.out).mono ?_
  rintro e w4 ⟨rfl, hQ4, hK4, hB4, hC4⟩
  have HC4 := Lib.hid hC4
  clear hC4
  have HQ4 := Lib.hid hQ4
  have HK4 := Lib.hid hK4
  have HB4 := Lib.hid hB4
  clear hQ4 hK4 hB4
  go_wp2
  go_ret
  have hg : w.grownBy w3 (some b) := grown_trans HG2.out HG3.out
  have hblk : w3.heap[g]? = w.heap[g]? := hg.block g (World.block_lt_of_cell? w _ HQ.out.1) (by simpa using HQ.out.2.2.1)
  refine ⟨congrArg Ending.returned hx.symm, _, HQ4.out, ?_, ?_, Or.inl rfl, cell1_from hblk HC4.out⟩
  · refine Kept.then_ (S := Foot g _) (Kept.of_grown hg (Kept.refl _ _) (fun k hk => Or.inl (Or.inr hk))) HK4.out (fun k hk => Or.inl ?_)
    exact hk
  · refine ((Below.refl base w).grown hg ?_ (fun k hk => by cases hk; exact (World.ownsRow.lt HQ.out.2.2.2 b rfl).1)).trans HB4.out
    exact Nat.le_trans ha (Nat.le_of_lt (World.block_lt_of_cell? w _ HQ.out.1))
end Go.Proofs.Ytjdehmclcdiijaa.Hp
