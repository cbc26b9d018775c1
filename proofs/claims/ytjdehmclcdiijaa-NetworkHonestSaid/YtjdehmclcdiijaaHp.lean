/- What lies behind the network's queues: the heap's calls. -/
import Derived.Test.YtjdehmclcdiijaaProg
import Derived.Test.YtjdehmclcdiijaaWWords
import Derived.Test.YtjdehmclcdiijaaWLast
import Derived.Test.YtjdehmclcdiijaaWMore
import Derived.Test.YtjdehmclcdiijaaWKept
import Derived.WalkKit
import Derived.KernelRfl
import Derived.Deep.LoopGhost
import Derived.Deep.RegionLaw
import Derived.Lib.Hide
import Derived.OneCell
import Derived.IntWalk
import Derived.Laws.LoneSync
set_option linter.unusedVariables false
namespace Go.Proofs.Ytjdehmclcdiijaa.Hp
open Go.RowKit Go.Proofs.YtjdehmclcdiijaaW.PrintWords Go.Proofs.YtjdehmclcdiijaaW.PrintLast Go.Proofs.YtjdehmclcdiijaaW.PrintMore

/-- A datagram. -/
structure D where
  due : Int
  num : Int
  bytes : ByteArray
def D.cells (d : D) : List Value := [.int .u64 d.due, .int .i64 d.num, .string d.bytes]
def D.val (d : D) : Value := .agg #[.int .u64 d.due, .int .i64 d.num, .string d.bytes]
def flat : List D → List Value
  | [] => []
  | d :: l => .int .u64 d.due :: .int .i64 d.num :: .string d.bytes :: flat l
def d0 : D := ⟨0, 0, .empty⟩
def less (a b : D) : Bool := decide (a.due < b.due) || (decide (a.due = b.due) && decide (a.num < b.num))

theorem flat_len : ∀ l : List D, (flat l).length = l.length * 3
  | [] => rfl
  | d :: l => by simp [flat, flat_len l]; omega
theorem flat_at : ∀ (l : List D) (i : Nat), i < l.length →
    (flat l)[i * 3]? = some (.int .u64 (l.getD i d0).due) ∧ (flat l)[i * 3 + 1]? = some (.int .i64 (l.getD i d0).num) ∧ (flat l)[i * 3 + 2]? = some (.string (l.getD i d0).bytes)
  | [], i, h => by simp at h
  | d :: l, 0, h => by simp [flat]
  | d :: l, i + 1, h => by
    have := flat_at l i (by simpa using h)
    rw [show (i + 1) * 3 = i * 3 + 3 by omega]
    simpa [flat] using this
theorem flat_set : ∀ (l : List D) (i : Nat) (x : D), flat (l.set i x) = (((flat l).set (i * 3) (.int .u64 x.due)).set (i * 3 + 1) (.int .i64 x.num)).set (i * 3 + 2) (.string x.bytes)
  | [], i, x => by simp [flat]
  | d :: l, 0, x => by simp [flat]
  | d :: l, i + 1, x => by
    rw [show (i + 1) * 3 = i * 3 + 3 by omega]
    simp [flat, flat_set l i x]
theorem flat_append : ∀ (l k : List D), flat (l ++ k) = flat l ++ flat k
  | [], k => rfl
  | d :: l, k => by simp [flat, flat_append l k]

/-- A queue's row at block b. -/
def Row (w : World) (base b cap : Nat) (l : List D) : Prop := w.ownsRow base 72 3 (.slice (some ⟨b, 0, none⟩) l.length cap) l.length (flat l)

theorem row_cells {w : World} {base b cap : Nat} {l : List D} (h : Row w base b cap l) {i : Nat} (hi : i < l.length) :
    w.cell? ⟨b, i * 3, none⟩ = some (.int .u64 (l.getD i d0).due) ∧ w.cell? ⟨b, i * 3 + 1, none⟩ = some (.int .i64 (l.getD i d0).num) ∧ w.cell? ⟨b, i * 3 + 2, none⟩ = some (.string (l.getD i d0).bytes) := by
  have hf := flat_at l i hi
  exact ⟨(h.cellAt _ (by omega)).trans hf.1, (h.cellAt _ (by omega)).trans hf.2.1, (h.cellAt _ (by omega)).trans hf.2.2⟩

set_option maxHeartbeats 1000000 in
theorem less_calls (w : World) (base b cap : Nat) (l : List D) (h : Row w base b cap l) (i k : Nat) (hi : i < l.length) (hk : k < l.length) (hl : l.length ≤ 1000) :
    Calls Try.prog 52 #[.slice (some ⟨b, 0, none⟩) l.length cap, .int .i64 i, .int .i64 k] w fun e w' => e = .returned (.bool (less (l.getD i d0) (l.getD k d0))) ∧ w' = w.drew := by
  have ci := row_cells h hi
  have ck := row_cells h hk
  obtain ⟨ci1, ci2, _⟩ := ci
  obtain ⟨ck1, ck2, _⟩ := ck
  clear h
  generalize hx : l.getD i d0 = x at *
  generalize hy : l.getD k d0 = y at *
  have hless : less x y = (decide (x.due < y.due) || (decide (x.due = y.due) && decide (x.num < y.num))) := rfl
  by_cases h1 : x.due < y.due
  · have hd : decide (x.due < y.due) = true := decide_eq_true h1
    rw [hd, Bool.true_or] at hless
    rw [hless]
    go_enter Try.func52, Try.ntmps52
    go_wp2
    go_region
    all_goals (try go_wp2)
    all_goals (go_ret; exact ⟨rfl, rfl⟩)
  · have hd : decide (x.due < y.due) = false := decide_eq_false h1
    by_cases h2 : x.due = y.due
    · rw [hd, decide_eq_true h2, Bool.false_or, Bool.true_and] at hless
      rw [hless]
      have he : (x.due == y.due) = true := by simp [h2]
      go_enter Try.func52, Try.ntmps52
      go_wp2
      go_region
      all_goals (try go_wp2)
      all_goals (go_ret; exact ⟨rfl, rfl⟩)
    · rw [hd, decide_eq_false h2, Bool.false_or, Bool.false_and] at hless
      rw [hless]
      have he : (x.due == y.due) = false := by simp [h2]
      go_enter Try.func52, Try.ntmps52
      go_wp2
      go_region
      all_goals (try go_wp2)
      all_goals (go_ret; exact ⟨rfl, rfl⟩)

theorem row_free {w : World} {base b cap : Nat} {l : List D} (h : Row w base b cap l) (j : Nat) : w.frozen? ⟨b, j, none⟩ = false := h.frozenAt j

/-- A datagram stored at a place. -/
def store3 (w : World) (b i : Nat) (d : D) : World := ((w.setCell ⟨b, i * 3, none⟩ (.int .u64 d.due)).setCell ⟨b, i * 3 + 1, none⟩ (.int .i64 d.num)).setCell ⟨b, i * 3 + 2, none⟩ (.string d.bytes)
theorem grown_trans {a b c : World} {row : Option Nat} (h : a.grownBy b row) (k : b.grownBy c row) : a.grownBy c row :=
  ⟨k.os.trans h.os, k.tape.trans h.tape, k.output.trans h.output, Nat.le_trans h.size k.size, fun i hi hn => (k.block i (Nat.lt_of_lt_of_le hi h.size) hn).trans (h.block i hi hn)⟩
theorem row_store {w : World} {base b cap : Nat} {l : List D} (h : Row w base b cap l) (i : Nat) (d : D) :
    Row (store3 w b i d) base b cap (l.set i d) ∧ w.grownBy (store3 w b i d) (some b) := by
  have s1 := World.ownsRow.stored h (i * 3) (.int .u64 d.due)
  have s2 := World.ownsRow.stored s1.1 (i * 3 + 1) (.int .i64 d.num)
  have s3 := World.ownsRow.stored s2.1 (i * 3 + 2) (.string d.bytes)
  refine ⟨?_, grown_trans (grown_trans s1.2 s2.2) s3.2⟩
  unfold Row
  rw [flat_set, show (l.set i d).length = l.length from List.length_set]
  exact s3.1
/-- A cell that is there is there behind a store. -/
def Is (w : World) (b k : Nat) : Prop := ∃ cur, w.heap[b]? = some (.cells cur 72 (0, 0)) ∧ k < cur.size
theorem is_row {w : World} {base b cap : Nat} {l : List D} (h : Row w base b cap l) {k : Nat} (hk : k < l.length * 3) : Is w b k := by
  rcases h.2 with ⟨h', _⟩ | ⟨g, cap, cur, hv, _, hh, hn, _, hs, _⟩
  · cases h'
  · cases hv
    exact ⟨cur, hh, by rw [hs]; exact Nat.lt_of_lt_of_le hk (Nat.mul_le_mul_right 3 hn)⟩
theorem Is.set {w : World} {b k : Nat} (h : Is w b k) (i : Nat) (u : Value) : Is (w.setCell ⟨b, i, none⟩ u) b k := by
  obtain ⟨cur, hh, hk⟩ := h
  exact ⟨_, heap_setCell_same w b i cur 72 u hh, by simpa using hk⟩
theorem Is.get {w : World} {b k : Nat} (h : Is w b k) : ∃ u, w.cell? ⟨b, k, none⟩ = some u := by
  obtain ⟨cur, hh, hk⟩ := h
  exact ⟨_, (cell_of_row w b k cur 72 (0, 0) hh).trans (Array.getElem?_eq_getElem hk)⟩

theorem row_drew {w : World} {base b cap : Nat} {l : List D} (h : Row w base b cap l) : Row w.drew base b cap l := World.ownsRow.drew h
theorem grown_drew {a c : World} {row : Option Nat} (h : a.grownBy c row) : a.grownBy c.drew row := ⟨h.os, h.tape, h.output, h.size, h.block⟩
theorem store33 (w : World) (b i k : Nat) (x y : D) : ((((((w.setCell ⟨b, i * 3, none⟩ (.int .u64 y.due)).setCell ⟨b, i * 3 + 1, none⟩ (.int .i64 y.num)).setCell ⟨b, i * 3 + 2, none⟩ (.string y.bytes)).setCell ⟨b, k * 3, none⟩ (.int .u64 x.due)).setCell
    ⟨b, k * 3 + 1, none⟩ (.int .i64 x.num)).setCell ⟨b, k * 3 + 2, none⟩ (.string x.bytes)) = store3 (store3 w b i y) b k x := rfl
set_option maxHeartbeats 1000000 in
theorem swap_calls (w : World) (base b cap : Nat) (l : List D) (h : Row w base b cap l) (i k : Nat) (hi : i < l.length) (hk : k < l.length) (hl : l.length ≤ 1000) :
    Calls Try.prog 53 #[.slice (some ⟨b, 0, none⟩) l.length cap, .int .i64 i, .int .i64 k] w fun e w' => e = .returned (.tuple #[]) ∧ Row w' base b cap ((l.set i (l.getD k d0)).set k (l.getD i d0)) ∧ w.grownBy w' (some b) := by
  obtain ⟨ci1, ci2, ci3⟩ := row_cells h hi
  obtain ⟨ck1, ck2, ck3⟩ := row_cells h hk
  have fi1 := row_free h (i * 3)
  have fi2 := row_free h (i * 3 + 1)
  have fi3 := row_free h (i * 3 + 2)
  have fk1 := row_free h (k * 3)
  have fk2 := row_free h (k * 3 + 1)
  have fk3 := row_free h (k * 3 + 2)
  have H := Lib.hid h
  have H2 := row_store h i (l.getD k d0)
  have H4 := row_store H2.1 k (l.getD i d0)
  have z1 := is_row h (k := k * 3) (by omega)
  have z2 := is_row h (k := k * 3 + 1) (by omega)
  have z3 := is_row h (k := k * 3 + 2) (by omega)
  obtain ⟨u1, m1⟩ := (z1.set (i * 3) (.int .u64 (l.getD k d0).due)).get
  obtain ⟨u2, m2⟩ := ((z2.set (i * 3) (.int .u64 (l.getD k d0).due)).set (i * 3 + 1) (.int .i64 (l.getD k d0).num)).get
  obtain ⟨u3, m3⟩ := (((z3.set (i * 3) (.int .u64 (l.getD k d0).due)).set (i * 3 + 1) (.int .i64 (l.getD k d0).num)).set (i * 3 + 2) (.string (l.getD k d0).bytes)).get
  clear z1 z2 z3
  have H2' := Lib.hid H2.2
  have H4' := Lib.hid H4
  clear h H2 H4
  generalize hx : l.getD i d0 = x at *
  generalize hy : l.getD k d0 = y at *
  go_enter Try.func53, Try.ntmps53
  go_wp2
  go_region
  all_goals (try go_wp2)
  go_end0
  rw [store33]
  exact ⟨rfl, row_drew H4'.out.1, grown_drew (grown_trans H2'.out H4'.out.2)⟩

theorem len_calls (w : World) (s : Option Addr) (n cap : Nat) : Calls Try.prog 51 #[.slice s n cap] w fun e w' => e = .returned (.int .i64 n) ∧ w' = w := by
  go_enter Try.func51, Try.ntmps51
  go_wp2
  go_ret
  exact ⟨rfl, rfl⟩

/-- A queue: the cell that holds its row. -/
def Q (w : World) (base : Nat) (a : Addr) (b cap : Nat) (l : List D) : Prop :=
  w.cell? a = some (.slice (some ⟨b, 0, none⟩) l.length cap) ∧ w.frozen? a = false ∧ a.block ≠ b ∧ Row w base b cap l


end Go.Proofs.Ytjdehmclcdiijaa.Hp
