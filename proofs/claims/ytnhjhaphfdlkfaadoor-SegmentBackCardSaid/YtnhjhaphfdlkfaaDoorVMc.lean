/- A Writer inside a struct of its own (record.out): as ..Wr.lean, the block's type being another one. -/
import Derived.Test.YtnhjhaphfdlkfaaDoorVMb
import Derived.Test.YtnhjhaphfdlkfaaDoorProg
import Derived.Test.YtnhjhaphfdlkfaaDoorVMa
import Derived.WalkKit
import Derived.KernelRfl
import Derived.Deep.LoopGhost
import Derived.Deep.RegionLaw
import Derived.Lib.Hide
import Derived.OneCell
import Derived.IntWalk
import Derived.Deep.QuietTactic
import Derived.Deep.MidRow
import Derived.Lib.SlicesS
import Derived.Deep.RegionHeld3
import Derived.BigQuiet
set_option linter.unusedVariables false
namespace Go.Proofs.YtnhjhaphfdlkfaaDoor.Wq
open Go.RowKit Go.Proofs.YtnhjhaphfdlkfaaDoorW.PrintWords Go.Proofs.YtnhjhaphfdlkfaaDoorW.PrintLast Go.Proofs.YtnhjhaphfdlkfaaDoorW.PrintMore
/-- A writer at block g, its row from base on. -/
def IsW (W : World) (base g : Nat) (v : Value) (xs : List Int) : Prop :=
  W.heap[g]? = some (.cells #[v] 144 (0, 0)) ∧ W.ownsRow base 5 1 v xs.length (nums .u8 xs) ∧ base ≤ g
/-- The blocks that a writer may write. -/
def Foot (g : Nat) (v : Value) (k : Nat) : Prop := k = g ∨ v.ownBlock = some k
/-- What a call of the writer leaves. -/
def Wrote (w w' : World) (base g : Nat) (v : Value) (xs : List Int) : Prop :=
  ∃ v', IsW w' base g v' xs ∧ Kept w w' (Foot g v) ∧ Below base w w' ∧ (v'.ownBlock = v.ownBlock ∨ ∃ b, v'.ownBlock = some b ∧ w.heap.size ≤ b)
theorem info5 : (Tryd.prog.info? 5).map (fun i => (i.zero, i.size, i.bytes)) = some (some (.int .u8 0), 1, 1) := by kernel_rfl
theorem own_lt {w : World} {base e n : Nat} {v : Value} {xs : List Value} (h : w.ownsRow base e 1 v n xs) {k : Nat} (hk : v.ownBlock = some k) : k < w.heap.size := by
  rcases h.2 with ⟨rfl, _⟩ | ⟨g, cap, cur, rfl, _, hb, _⟩
  · simp [Value.ownBlock] at hk
  · simp [Value.ownBlock] at hk
    subst hk
    exact blk_lt hb
/-- A writer that has just been made. -/
theorem isw_new (w : World) : IsW (w.alloc (.cells #[.slice none 0 0] 144)) w.heap.size w.heap.size (.slice none 0 0) [] :=
  ⟨heap_alloc_new w _, ⟨rfl, Or.inl ⟨rfl, rfl⟩⟩, Nat.le_refl _⟩
theorem isw_drewN {w : World} {base g : Nat} {v : Value} {xs : List Int} (h : IsW w base g v xs) (n : Nat) : IsW (w.drewN n) base g v xs := h
theorem str_size (xs : List Int) : (strOfNums xs).size = xs.length := by unfold strOfNums ByteArray.size; simp
theorem isw_lt {w : World} {base g : Nat} {v : Value} {xs : List Int} (h : IsW w base g v xs) : g < w.heap.size := blk_lt h.1
theorem isw_ne {w : World} {base g : Nat} {v : Value} {xs : List Int} (h : IsW w base g v xs) : v.ownBlock ≠ some g := by
  intro e
  rcases h.2.1.2 with ⟨rfl, _⟩ | ⟨b, cap, cur, rfl, _, hb, _⟩
  · simp [Value.ownBlock] at e
  · simp [Value.ownBlock] at e
    subst e
    rw [h.1] at hb
    simp at hb
theorem isw_cell {w : World} {base g : Nat} {v : Value} {xs : List Int} (h : IsW w base g v xs) : w.cell? ⟨g, 0, none⟩ = some v := (blk_cell h.1 0).trans rfl
/-- A writer whose field has been stored anew. -/
theorem isw_stored {w1 : World} {base g : Nat} {v v1 : Value} {ys : List Int} (hb : w1.heap[g]? = some (.cells #[v] 144 (0, 0))) (hown : w1.ownsRow base 5 1 v1 ys.length (nums .u8 ys)) (hn : v1.ownBlock ≠ some g) (hge : base ≤ g) :
    IsW (w1.setCell ⟨g, 0, none⟩ v1) base g v1 ys := by
  refine ⟨one_setCell hb, ⟨hown.1, ?_⟩, hge⟩
  rcases hown.2 with h | ⟨b, cap, cur, rfl, h1, h2, h3⟩
  · exact Or.inl h
  · refine Or.inr ⟨b, cap, cur, rfl, h1, ?_, h3⟩
    rw [heap_setCell_other _ _ _ _ (by intro e; apply hn; simp [Value.ownBlock]; exact e)]
    exact h2
theorem own_shape {w : World} {base e n : Nat} {v : Value} {xs : List Value} (h : w.ownsRow base e 1 v (n + 1) xs) : ∃ g cap, v = .slice (some ⟨g, 0, none⟩) (n + 1) cap := by
  rcases h.2 with ⟨_, h0⟩ | ⟨g, cap, cur, rfl, _⟩
  · omega
  · exact ⟨g, cap, rfl⟩
/-- One byte more: the writer's field still holds the elder slice; once the new one is stored, the writer has the byte. -/
theorem wrote_step {w wr w1 : World} {base g : Nat} {v0 v v1 : Value} {xs : List Int} {u : Int}
    (hW : IsW wr base g v xs) (hK : Kept w wr (Foot g v0)) (hB : Below base w wr) (hv : v.ownBlock = v0.ownBlock ∨ ∃ b, v.ownBlock = some b ∧ w.heap.size ≤ b)
    (hown : w1.ownsRow base 5 1 v1 (xs.length + 1) (nums .u8 xs ++ [.int .u8 u])) (hg : (wr.drew).grownBy w1 v.ownBlock) (hat : v1.ownBlock = v.ownBlock ∨ ∃ b, v1.ownBlock = some b ∧ wr.heap.size ≤ b) :
    w1.cell? ⟨g, 0, none⟩ = some v ∧ w1.frozen? ⟨g, 0, none⟩ = false ∧ Wrote w (w1.setCell ⟨g, 0, none⟩ v1) base g v0 (xs ++ [u]) := by
  have hlt := isw_lt hW
  have hne := isw_ne hW
  have hb : w1.heap[g]? = some (.cells #[v] 144 (0, 0)) := (hg.block g hlt (fun e => hne e.symm)).trans hW.1
  refine ⟨(blk_cell hb 0).trans rfl, blk_frozen hb 0, v1, isw_stored hb ?_ ?_ hW.2.2, ?_, ?_, ?_⟩
  · rw [List.length_append, show nums .u8 (xs ++ [u]) = nums .u8 xs ++ [.int .u8 u] by simp [nums]]; exact hown
  · intro e
    rcases hat with h | ⟨b, h, hle⟩
    · exact hne (h.symm.trans e)
    · rw [e] at h; cases h; omega
  · refine Kept.setCell (Kept.of_grown (W := wr.drew) hg hK ?_) (Or.inl (Or.inl rfl)) v1
    intro k hk
    rcases hv with h | ⟨b, h, hle⟩
    · exact Or.inl (Or.inr (h.symm.trans hk))
    · rw [h] at hk; cases hk; exact Or.inr hle
  · refine ((hB.drew).grown hg (Nat.le_trans hW.2.2 (Nat.le_of_lt hlt)) (fun k hk => ?_)).setCell hW.2.2 v1
    rcases hW.2.1.2 with ⟨rfl, _⟩ | ⟨b, cap, cur, rfl, hge, _⟩
    · simp [Value.ownBlock] at hk
    · simp [Value.ownBlock] at hk; omega
  · rcases hat with h | ⟨b, h, hle⟩
    · rw [h]; exact hv
    · exact Or.inr ⟨b, h, Nat.le_trans hK.1 hle⟩
theorem alloc_drew (w : World) (o : Obj) : (w.alloc o).drew = w.drew.alloc o := rfl
set_option maxHeartbeats 1000000 in
set_option maxRecDepth 100000 in
theorem put64 (n : Int) (h0 : 0 ≤ n) (h1 : n < 18446744073709551616) (base g : Nat) (v : Value) (xs : List Int) (w : World) (hW : IsW w base g v xs) (hl : xs.length ≤ 1000000) :
    Calls Tryd.prog 56 #[.pointer (some ⟨g, 0, none⟩), .int .u64 n, .int .i64 8] w fun e w' => e = .returned (.tuple #[]) ∧ Wrote w w' base g v (xs ++ Wr.leBytes n 8) := by
  have HW := Lib.hid hW
  clear hW
  go_enter Tryd.func56, Tryd.ntmps56
  go_wp2
  go_loopw [6, 10] (fun _ i wr => ∃ k : Nat, k ≤ 8 ∧ i = .int .i64 k ∧ Wrote w wr base g v (xs ++ Wr.leBytes n k)) (fun _ i _ => 8 - (intOf i).toNat)
  case atStart => exact ⟨0, by omega, rfl, v, by simpa [Wr.leBytes] using HW.out, Kept.refl _ _, Below.refl _ _, Or.inl rfl⟩
  case round =>
    obtain ⟨k, hk, rfl, v2, hW2, hK2, hB2, hv2⟩ := hrel
    by_cases hlt : k < 8
    · have hc := isw_cell hW2
      have hg := isw_lt hW2
      have HW2 := Lib.hid hW2
      have HK2 := Lib.hid hK2
      have HV2 := Lib.hid hv2
      have HB2 := Lib.hid hB2
      clear hW2 hK2 hv2 hB2
      have hs8 : Op.shift BinOp.shr IntKind.u64 n IntKind.i64 (IntKind.i64.wrap (8 * (k : Int))) = pure (.int .u64 (n / 2 ^ (8 * k))) := by
        rw [IntWalk.i64_in _ (by omega), shift_shr _ _ _ _ (by omega) (by show 8 * (k : Int) ≤ 64; omega)]
        rw [show (8 * (k : Int)).toNat = 8 * k by omega]
      have hbase : base ≤ wr.heap.size := Nat.le_trans HW2.out.2.2 (Nat.le_of_lt hg)
      have HL := Lib.hid (show ((xs ++ Wr.leBytes n k).length + 1) * 1 ≤ 140737488355328 by rw [List.length_append, Wr.leBytes_len]; omega)
      go_wp2
      go_region_law (rw [alloc_drew]; refine step_append_cells (w0 := wr.drew) base (by rfl) (.tmp 17) (.tmp 23) 72 5 (.int .u8 0) 1 1 (by rfl) Tryd.underlying72 info5 rfl (by decide) (by decide) v2 (xs ++ Wr.leBytes n k).length (nums .u8 (xs ++ Wr.leBytes n k)) [.int .u8 (IntKind.u8.wrap (n / 2 ^ (8 * k)))] (by simp [Act.eval]) (by simp [Act.eval]) rfl (by intro u hu; simp at hu; subst hu; rfl) (by exact HW2.out.2.1) (Below.refl _ _) (by exact hbase) HL.out ?_; intro v1 w1 hown1 _ hg1 hat1; obtain ⟨g1, cap1, rfl⟩ := own_shape hown1; have HW1 := Lib.hid (wrote_step HW2.out HK2.out HB2.out HV2.out hown1 hg1 hat1); have hc1 := HW1.out.1; have hf1 := HW1.out.2.1; clear hown1 hg1 hat1)
      go_wp2
      all_goals
        have HW9 := HW1.out.2.2
        clear hc1 hf1
        rw [IntKind.wrap_u8] at HW9
        refine ⟨⟨k + 1, by omega, by go_num, ?_⟩, by simp [intOf]; omega⟩
        rw [Wr.leBytes_succ, ← List.append_assoc]
        rw [List.length_append] at HW9
        exact HW9
    · go_wp2
      go_end0
      have hk8 : k = 8 := by omega
      subst hk8
      exact ⟨rfl, v2, hW2, hK2, hB2, hv2⟩
set_option maxHeartbeats 1000000 in
set_option maxRecDepth 100000 in
theorem put8 (n : Int) (h0 : 0 ≤ n) (h1 : n < 256) (base g : Nat) (v : Value) (xs : List Int) (w : World) (hW : IsW w base g v xs) (hl : xs.length ≤ 1000000) :
    Calls Tryd.prog 57 #[.pointer (some ⟨g, 0, none⟩), .int .u8 n, .int .i64 1] w fun e w' => e = .returned (.tuple #[]) ∧ Wrote w w' base g v (xs ++ Wr.leBytes n 1) := by
  have HW := Lib.hid hW
  clear hW
  go_enter Tryd.func57, Tryd.ntmps57
  go_wp2
  go_loopw [6, 10] (fun _ i wr => ∃ k : Nat, k ≤ 1 ∧ i = .int .i64 k ∧ Wrote w wr base g v (xs ++ Wr.leBytes n k)) (fun _ i _ => 1 - (intOf i).toNat)
  case atStart => exact ⟨0, by omega, rfl, v, by simpa [Wr.leBytes] using HW.out, Kept.refl _ _, Below.refl _ _, Or.inl rfl⟩
  case round =>
    obtain ⟨k, hk, rfl, v2, hW2, hK2, hB2, hv2⟩ := hrel
    by_cases hlt : k < 1
    · have hc := isw_cell hW2
      have hg := isw_lt hW2
      have HW2 := Lib.hid hW2
      have HK2 := Lib.hid hK2
      have HV2 := Lib.hid hv2
      have HB2 := Lib.hid hB2
      clear hW2 hK2 hv2 hB2
      have hs8 : Op.shift BinOp.shr IntKind.u64 (IntKind.u64.wrap n) IntKind.i64 (IntKind.i64.wrap (8 * (k : Int))) = pure (.int .u64 (n / 2 ^ (8 * k))) := by
        rw [IntWalk.u64_in n ⟨h0, by omega⟩, IntWalk.i64_in _ (by omega), shift_shr _ _ _ _ (by omega) (by show 8 * (k : Int) ≤ 64; omega)]
        rw [show (8 * (k : Int)).toNat = 8 * k by omega]
      have hbase : base ≤ wr.heap.size := Nat.le_trans HW2.out.2.2 (Nat.le_of_lt hg)
      have HL := Lib.hid (show ((xs ++ Wr.leBytes n k).length + 1) * 1 ≤ 140737488355328 by rw [List.length_append, Wr.leBytes_len]; omega)
      go_wp2
      go_region_law (rw [alloc_drew]; refine step_append_cells (w0 := wr.drew) base (by rfl) (.tmp 17) (.tmp 24) 72 5 (.int .u8 0) 1 1 (by rfl) Tryd.underlying72 info5 rfl (by decide) (by decide) v2 (xs ++ Wr.leBytes n k).length (nums .u8 (xs ++ Wr.leBytes n k)) [.int .u8 (IntKind.u8.wrap (n / 2 ^ (8 * k)))] (by simp [Act.eval]) (by simp [Act.eval]) rfl (by intro u hu; simp at hu; subst hu; rfl) (by exact HW2.out.2.1) (Below.refl _ _) (by exact hbase) HL.out ?_; intro v1 w1 hown1 _ hg1 hat1; obtain ⟨g1, cap1, rfl⟩ := own_shape hown1; have HW1 := Lib.hid (wrote_step HW2.out HK2.out HB2.out HV2.out hown1 hg1 hat1); have hc1 := HW1.out.1; have hf1 := HW1.out.2.1; clear hown1 hg1 hat1)
      go_wp2
      all_goals
        have HW9 := HW1.out.2.2
        clear hc1 hf1
        rw [IntKind.wrap_u8] at HW9
        refine ⟨⟨k + 1, by omega, by go_num, ?_⟩, by simp [intOf]; omega⟩
        rw [Wr.leBytes_succ, ← List.append_assoc]
        rw [List.length_append] at HW9
        exact HW9
    · go_wp2
      go_end0
      have hk8 : k = 1 := by omega
      subst hk8
      exact ⟨rfl, v2, hW2, hK2, hB2, hv2⟩
set_option maxHeartbeats 1000000 in
set_option maxRecDepth 100000 in
theorem put16 (n : Int) (h0 : 0 ≤ n) (h1 : n < 65536) (base g : Nat) (v : Value) (xs : List Int) (w : World) (hW : IsW w base g v xs) (hl : xs.length ≤ 1000000) :
    Calls Tryd.prog 80 #[.pointer (some ⟨g, 0, none⟩), .int .u16 n, .int .i64 2] w fun e w' => e = .returned (.tuple #[]) ∧ Wrote w w' base g v (xs ++ Wr.leBytes n 2) := by
  have HW := Lib.hid hW
  clear hW
  go_enter Tryd.func80, Tryd.ntmps80
  go_wp2
  go_loopw [6, 10] (fun _ i wr => ∃ k : Nat, k ≤ 2 ∧ i = .int .i64 k ∧ Wrote w wr base g v (xs ++ Wr.leBytes n k)) (fun _ i _ => 2 - (intOf i).toNat)
  case atStart => exact ⟨0, by omega, rfl, v, by simpa [Wr.leBytes] using HW.out, Kept.refl _ _, Below.refl _ _, Or.inl rfl⟩
  case round =>
    obtain ⟨k, hk, rfl, v2, hW2, hK2, hB2, hv2⟩ := hrel
    by_cases hlt : k < 2
    · have hc := isw_cell hW2
      have hg := isw_lt hW2
      have HW2 := Lib.hid hW2
      have HK2 := Lib.hid hK2
      have HV2 := Lib.hid hv2
      have HB2 := Lib.hid hB2
      clear hW2 hK2 hv2 hB2
      have hs8 : Op.shift BinOp.shr IntKind.u64 (IntKind.u64.wrap n) IntKind.i64 (IntKind.i64.wrap (8 * (k : Int))) = pure (.int .u64 (n / 2 ^ (8 * k))) := by
        rw [IntWalk.u64_in n ⟨h0, by omega⟩, IntWalk.i64_in _ (by omega), shift_shr _ _ _ _ (by omega) (by show 8 * (k : Int) ≤ 64; omega)]
        rw [show (8 * (k : Int)).toNat = 8 * k by omega]
      have hbase : base ≤ wr.heap.size := Nat.le_trans HW2.out.2.2 (Nat.le_of_lt hg)
      have HL := Lib.hid (show ((xs ++ Wr.leBytes n k).length + 1) * 1 ≤ 140737488355328 by rw [List.length_append, Wr.leBytes_len]; omega)
      go_wp2
      go_region_law (rw [alloc_drew]; refine step_append_cells (w0 := wr.drew) base (by rfl) (.tmp 17) (.tmp 24) 72 5 (.int .u8 0) 1 1 (by rfl) Tryd.underlying72 info5 rfl (by decide) (by decide) v2 (xs ++ Wr.leBytes n k).length (nums .u8 (xs ++ Wr.leBytes n k)) [.int .u8 (IntKind.u8.wrap (n / 2 ^ (8 * k)))] (by simp [Act.eval]) (by simp [Act.eval]) rfl (by intro u hu; simp at hu; subst hu; rfl) (by exact HW2.out.2.1) (Below.refl _ _) (by exact hbase) HL.out ?_; intro v1 w1 hown1 _ hg1 hat1; obtain ⟨g1, cap1, rfl⟩ := own_shape hown1; have HW1 := Lib.hid (wrote_step HW2.out HK2.out HB2.out HV2.out hown1 hg1 hat1); have hc1 := HW1.out.1; have hf1 := HW1.out.2.1; clear hown1 hg1 hat1)
      go_wp2
      all_goals
        have HW9 := HW1.out.2.2
        clear hc1 hf1
        rw [IntKind.wrap_u8] at HW9
        refine ⟨⟨k + 1, by omega, by go_num, ?_⟩, by simp [intOf]; omega⟩
        rw [Wr.leBytes_succ, ← List.append_assoc]
        rw [List.length_append] at HW9
        exact HW9
    · go_wp2
      go_end0
      have hk8 : k = 2 := by omega
      subst hk8
      exact ⟨rfl, v2, hW2, hK2, hB2, hv2⟩
set_option maxHeartbeats 1000000 in
set_option maxRecDepth 100000 in
theorem put32 (n : Int) (h0 : 0 ≤ n) (h1 : n < 4294967296) (base g : Nat) (v : Value) (xs : List Int) (w : World) (hW : IsW w base g v xs) (hl : xs.length ≤ 1000000) :
    Calls Tryd.prog 81 #[.pointer (some ⟨g, 0, none⟩), .int .u32 n, .int .i64 4] w fun e w' => e = .returned (.tuple #[]) ∧ Wrote w w' base g v (xs ++ Wr.leBytes n 4) := by
  have HW := Lib.hid hW
  clear hW
  go_enter Tryd.func81, Tryd.ntmps81
  go_wp2
  go_loopw [6, 10] (fun _ i wr => ∃ k : Nat, k ≤ 4 ∧ i = .int .i64 k ∧ Wrote w wr base g v (xs ++ Wr.leBytes n k)) (fun _ i _ => 4 - (intOf i).toNat)
  case atStart => exact ⟨0, by omega, rfl, v, by simpa [Wr.leBytes] using HW.out, Kept.refl _ _, Below.refl _ _, Or.inl rfl⟩
  case round =>
    obtain ⟨k, hk, rfl, v2, hW2, hK2, hB2, hv2⟩ := hrel
    by_cases hlt : k < 4
    · have hc := isw_cell hW2
      have hg := isw_lt hW2
      have HW2 := Lib.hid hW2
      have HK2 := Lib.hid hK2
      have HV2 := Lib.hid hv2
      have HB2 := Lib.hid hB2
      clear hW2 hK2 hv2 hB2
      have hs8 : Op.shift BinOp.shr IntKind.u64 (IntKind.u64.wrap n) IntKind.i64 (IntKind.i64.wrap (8 * (k : Int))) = pure (.int .u64 (n / 2 ^ (8 * k))) := by
        rw [IntWalk.u64_in n ⟨h0, by omega⟩, IntWalk.i64_in _ (by omega), shift_shr _ _ _ _ (by omega) (by show 8 * (k : Int) ≤ 64; omega)]
        rw [show (8 * (k : Int)).toNat = 8 * k by omega]
      have hbase : base ≤ wr.heap.size := Nat.le_trans HW2.out.2.2 (Nat.le_of_lt hg)
      have HL := Lib.hid (show ((xs ++ Wr.leBytes n k).length + 1) * 1 ≤ 140737488355328 by rw [List.length_append, Wr.leBytes_len]; omega)
      go_wp2
      go_region_law (rw [alloc_drew]; refine step_append_cells (w0 := wr.drew) base (by rfl) (.tmp 17) (.tmp 24) 72 5 (.int .u8 0) 1 1 (by rfl) Tryd.underlying72 info5 rfl (by decide) (by decide) v2 (xs ++ Wr.leBytes n k).length (nums .u8 (xs ++ Wr.leBytes n k)) [.int .u8 (IntKind.u8.wrap (n / 2 ^ (8 * k)))] (by simp [Act.eval]) (by simp [Act.eval]) rfl (by intro u hu; simp at hu; subst hu; rfl) (by exact HW2.out.2.1) (Below.refl _ _) (by exact hbase) HL.out ?_; intro v1 w1 hown1 _ hg1 hat1; obtain ⟨g1, cap1, rfl⟩ := own_shape hown1; have HW1 := Lib.hid (wrote_step HW2.out HK2.out HB2.out HV2.out hown1 hg1 hat1); have hc1 := HW1.out.1; have hf1 := HW1.out.2.1; clear hown1 hg1 hat1)
      go_wp2
      all_goals
        have HW9 := HW1.out.2.2
        clear hc1 hf1
        rw [IntKind.wrap_u8] at HW9
        refine ⟨⟨k + 1, by omega, by go_num, ?_⟩, by simp [intOf]; omega⟩
        rw [Wr.leBytes_succ, ← List.append_assoc]
        rw [List.length_append] at HW9
        exact HW9
    · go_wp2
      go_end0
      have hk8 : k = 4 := by omega
      subst hk8
      exact ⟨rfl, v2, hW2, hK2, hB2, hv2⟩
set_option maxHeartbeats 1000000 in
set_option maxRecDepth 100000 in
theorem wBytes (base g : Nat) (v : Value) (xs : List Int) (w : World) (hW : IsW w base g v xs) (hl : xs.length ≤ 1000000) :
    Calls Tryd.prog 30 #[.pointer (some ⟨g, 0, none⟩)] w fun e w' => e = .returned (.string (strOfNums xs)) ∧ Drawn0 w w' := by
  have hc := isw_cell hW
  have hcv := own_string (P := Tryd.prog) Tryd.underlying72 Tryd.underlying5 Tryd.underlying9 hW.2.1
  have HW := Lib.hid hW
  clear hW
  go_enter Tryd.func30, Tryd.ntmps30
  go_wp2
  go_ret
  exact ⟨rfl, Drawn0.refl _⟩
set_option maxHeartbeats 1000000 in
set_option maxRecDepth 100000 in
theorem wU64 (n : Int) (h0 : 0 ≤ n) (h1 : n < 18446744073709551616) (base g : Nat) (v : Value) (xs : List Int) (w : World) (hW : IsW w base g v xs) (hl : xs.length ≤ 1000000) :
    Calls Tryd.prog 27 #[.pointer (some ⟨g, 0, none⟩), .int .u64 n] w fun e w' => e = .returned (.tuple #[]) ∧ Wrote w w' base g v (xs ++ Wr.leBytes n 8) := by
  have HW := Lib.hid hW
  clear hW
  go_enter Tryd.func27, Tryd.ntmps27
  go_wp2_with fail
  refine (put64 n h0 h1 base g v xs _ HW.out hl).mono ?_
  rintro e w1 ⟨rfl, hw⟩
  have HQ := Lib.hid hw
  clear hw
  go_wp2
  go_end0
  exact ⟨rfl, HQ.out⟩
set_option maxHeartbeats 1000000 in
set_option maxRecDepth 100000 in
theorem wU8 (n : Int) (h0 : 0 ≤ n) (h1 : n < 256) (base g : Nat) (v : Value) (xs : List Int) (w : World) (hW : IsW w base g v xs) (hl : xs.length ≤ 1000000) :
    Calls Tryd.prog 28 #[.pointer (some ⟨g, 0, none⟩), .int .u8 n] w fun e w' => e = .returned (.tuple #[]) ∧ Wrote w w' base g v (xs ++ Wr.leBytes n 1) := by
  have HW := Lib.hid hW
  clear hW
  go_enter Tryd.func28, Tryd.ntmps28
  go_wp2_with fail
  refine (put8 n h0 h1 base g v xs _ HW.out hl).mono ?_
  rintro e w1 ⟨rfl, hw⟩
  have HQ := Lib.hid hw
  clear hw
  go_wp2
  go_end0
  exact ⟨rfl, HQ.out⟩
set_option maxHeartbeats 1000000 in
set_option maxRecDepth 100000 in
theorem wU16 (n : Int) (h0 : 0 ≤ n) (h1 : n < 65536) (base g : Nat) (v : Value) (xs : List Int) (w : World) (hW : IsW w base g v xs) (hl : xs.length ≤ 1000000) :
    Calls Tryd.prog 58 #[.pointer (some ⟨g, 0, none⟩), .int .u16 n] w fun e w' => e = .returned (.tuple #[]) ∧ Wrote w w' base g v (xs ++ Wr.leBytes n 2) := by
  have HW := Lib.hid hW
  clear hW
  go_enter Tryd.func58, Tryd.ntmps58
  go_wp2_with fail
  refine (put16 n h0 h1 base g v xs _ HW.out hl).mono ?_
  rintro e w1 ⟨rfl, hw⟩
  have HQ := Lib.hid hw
  clear hw
  go_wp2
  go_end0
  exact ⟨rfl, HQ.out⟩
set_option maxHeartbeats 1000000 in
set_option maxRecDepth 100000 in
theorem wU32 (n : Int) (h0 : 0 ≤ n) (h1 : n < 4294967296) (base g : Nat) (v : Value) (xs : List Int) (w : World) (hW : IsW w base g v xs) (hl : xs.length ≤ 1000000) :
    Calls Tryd.prog 59 #[.pointer (some ⟨g, 0, none⟩), .int .u32 n] w fun e w' => e = .returned (.tuple #[]) ∧ Wrote w w' base g v (xs ++ Wr.leBytes n 4) := by
  have HW := Lib.hid hW
  clear hW
  go_enter Tryd.func59, Tryd.ntmps59
  go_wp2_with fail
  refine (put32 n h0 h1 base g v xs _ HW.out hl).mono ?_
  rintro e w1 ⟨rfl, hw⟩
  have HQ := Lib.hid hw
  clear hw
  go_wp2
  go_end0
  exact ⟨rfl, HQ.out⟩
end Go.Proofs.YtnhjhaphfdlkfaaDoor.Wq
/- Contracts in plain words: frames, the reader. -/
set_option linter.unusedVariables false
namespace Go.Proofs.YtnhjhaphfdlkfaaDoor.Sg
open Go.RowKit Go.Proofs.YtnhjhaphfdlkfaaDoor.HF Go.Proofs.YtnhjhaphfdlkfaaDoor.SB Go.Proofs.YtnhjhaphfdlkfaaDoorW.PrintWords Go.Proofs.YtnhjhaphfdlkfaaDoorW.PrintLast Go.Proofs.YtnhjhaphfdlkfaaDoorW.PrintMore
abbrev Lay (w : World) : Prop := Go.Proofs.YtnhjhaphfdlkfaaDoor.Crc.Laid w
theorem c_next (l : List UInt8) (hl : l.length ≤ 100000) (w : World) (HL : Lay w) :
    Calls Tryd.prog 34 #[.string (bs l)] w fun e w' => e = .returned (.tuple #[.string (bs (nextN l).1), .int .i64 (nextN l).2.1, .int .i64 (nextN l).2.2]) ∧ Below w.heap.size w w' :=
  frame_Next.calls 100011 _ _ _ _ w (next_f l hl 100011 (by omega)) (Aside0.mk HL)
def frameL (a : List UInt8) : List UInt8 := enc (headN (bs a)) ++ a
theorem c_fput (a : List UInt8) (ha : a.length ≤ 4096) (w : World) (HL : Lay w) :
    Calls Tryd.prog 29 #[.string (bs a)] w fun e w' => e = .returned (.tuple #[.string (bs (frameL a)), .int .i64 0]) ∧ Below w.heap.size w w' := by
  have h := frame_put_f (bs a) (by rw [bs_size]; exact ha) 5001 (by omega)
  rw [frame_list] at h
  exact frame_Put.calls 5001 _ _ _ w h (Aside0.mk HL)
/-- A reader at block g; r: what is left of its text (none: it was torn). -/
def IsRd (w0 w : World) (g : Nat) (r : Option (List UInt8)) : Prop := IsS130 w0 w g (st r).1 (st r).2
theorem rd_kept {w0 w w1 : World} {g : Nat} {r : Option (List UInt8)} {S : Nat → Prop} (h : IsRd w0 w g r) (hk : Kept w w1 S) (hne : ¬ S g) : IsRd w0 w1 g r := IsS130.kept h hk hne
theorem rd_lt {w0 w : World} {g : Nat} {r : Option (List UInt8)} (h : IsRd w0 w g r) : g < w.heap.size := IsS130.lt h
theorem rd_ge {w0 w : World} {g : Nat} {r : Option (List UInt8)} (h : IsRd w0 w g r) : w0.heap.size ≤ g := IsS130.ge h
theorem kept_but {w w' : World} {g : Nat} (k : KeepBut w w' g none) : Kept w w' (fun i => i = g) := Kept.of_keep (Kept.refl w _) k (Or.inl rfl)
theorem c_new (l : List UInt8) (w : World) :
    Calls Tryd.prog 35 #[.string (bs l)] w fun e w' => ∃ g : Nat, e = .returned (.pointer (some ⟨g, 0, none⟩)) ∧ IsRd w w' g (some l) ∧ Below w.heap.size w w' :=
  (codec_New.calls (bs l) (bs l) 0 w w (Below.refl _ _) rfl).mono fun e w' ⟨g, h1, h2, h3, _⟩ => ⟨g, h1, h2, h3⟩
theorem c_u8 (w0 w : World) (gr : Nat) (r : Option (List UInt8)) (hI : IsRd w0 w gr r) (hs : small r) (hB : Below w0.heap.size w0 w) :
    Calls Tryd.prog 37 #[.pointer (some ⟨gr, 0, none⟩)] w fun e w' => e = .returned (.int .u8 (g 1 r).1) ∧ IsRd w0 w' gr (g 1 r).2 ∧ Below w0.heap.size w0 w' ∧ Kept w w' (fun i => i = gr) :=
  (codec_Reader_U8.calls 21 gr _ _ _ _ _ w0 w hI hB (read8 r hs 21 (by omega))).mono fun e w' ⟨h1, h2, h3, h4⟩ => ⟨h1, h2, h3, kept_but h4⟩
theorem c_u64 (w0 w : World) (gr : Nat) (r : Option (List UInt8)) (hI : IsRd w0 w gr r) (hs : small r) (hB : Below w0.heap.size w0 w) :
    Calls Tryd.prog 36 #[.pointer (some ⟨gr, 0, none⟩)] w fun e w' => e = .returned (.int .u64 (g 8 r).1) ∧ IsRd w0 w' gr (g 8 r).2 ∧ Below w0.heap.size w0 w' ∧ Kept w w' (fun i => i = gr) :=
  (codec_Reader_U64.calls 21 gr _ _ _ _ _ w0 w hI hB (read64 r hs 21 (by omega))).mono fun e w' ⟨h1, h2, h3, h4⟩ => ⟨h1, h2, h3, kept_but h4⟩
theorem c_err (w0 w : World) (gr : Nat) (r : Option (List UInt8)) (hI : IsRd w0 w gr r) (hB : Below w0.heap.size w0 w) :
    Calls Tryd.prog 38 #[.pointer (some ⟨gr, 0, none⟩)] w fun e w' => e = .returned (.int .i64 (st r).2) ∧ IsRd w0 w' gr r ∧ Below w0.heap.size w0 w' ∧ Kept w w' (fun i => i = gr) :=
  (codec_Reader_Err.calls gr _ _ _ _ _ w0 w hI hB rfl).mono fun e w' ⟨h1, h2, h3, h4⟩ => ⟨h1, h2, h3, kept_but h4⟩
theorem c_rest (w0 w : World) (gr : Nat) (r : Option (List UInt8)) (hI : IsRd w0 w gr r) (hB : Below w0.heap.size w0 w) :
    Calls Tryd.prog 39 #[.pointer (some ⟨gr, 0, none⟩)] w fun e w' => e = .returned (.string (st r).1) ∧ IsRd w0 w' gr r ∧ Below w0.heap.size w0 w' ∧ Kept w w' (fun i => i = gr) :=
  (codec_Reader_Rest.calls gr _ _ _ _ _ w0 w hI hB rfl).mono fun e w' ⟨h1, h2, h3, h4⟩ => ⟨h1, h2, h3, kept_but h4⟩
theorem c_legal (a : Int) (w : World) : Calls Tryd.prog 87 #[.int .u8 a] w fun e w' => e = .returned (.bool (decide (a < 64))) ∧ Drawn0 w w' := input_Legal.calls a _ w rfl
end Go.Proofs.YtnhjhaphfdlkfaaDoor.Sg
/- Records: what they are; the reader's and the writer's side of a field. -/
set_option linter.unusedVariables false
namespace Go.Proofs.YtnhjhaphfdlkfaaDoor.Sg
open Go.RowKit Go.Proofs.YtnhjhaphfdlkfaaDoor.HF Go.Proofs.YtnhjhaphfdlkfaaDoor.SB Go.Proofs.YtnhjhaphfdlkfaaDoorW.PrintWords Go.Proofs.YtnhjhaphfdlkfaaDoorW.PrintLast Go.Proofs.YtnhjhaphfdlkfaaDoorW.PrintMore
structure Rec where
  kind : Int
  frame : Int
  own : Int
  p0 : Int
  p1 : Int
  seg : Int
  first : Int
  epoch : Int
  player : Int
deriving DecidableEq
def Rec.zero : Rec := ⟨0, 0, 0, 0, 0, 0, 0, 0, 0⟩
def Rec.cells (r : Rec) : Array Value := #[.int .i64 r.kind, .int .u64 r.frame, .int .u8 r.own, .int .u8 r.p0, .int .u8 r.p1, .int .u64 r.seg, .int .u64 r.first, .int .u64 r.epoch, .int .u8 r.player]
def Rec.val (r : Rec) : Value := .agg r.cells
set_option maxHeartbeats 1000000 in
theorem in_byte (w0 w : World) (gr : Nat) (r : Option (List UInt8)) (hI : IsRd w0 w gr r) (hs : small r) (hB : Below w0.heap.size w0 w) (b off : Nat) (cs : Array Value) (t : TypeId) (hb : w.heap[b]? = some (.cells cs t (0, 0))) (hoff : off < cs.size) (hbg : b ≠ gr) (hb0 : w0.heap.size ≤ b) :
    Calls Tryd.prog 69 #[.agg #[.pointer (some ⟨gr, 0, none⟩)], .pointer (some ⟨b, off, none⟩)] w fun e w' =>
      e = .returned (.tuple #[]) ∧ IsRd w0 w' gr (g 1 r).2 ∧ w'.heap[b]? = some (.cells (cs.setIfInBounds off (.int .u8 (g 1 r).1)) t (0, 0)) ∧ Below w0.heap.size w0 w' ∧ Kept w w' (fun i => i = gr ∨ i = b) := by
  have hblt := blk_lt hb
  have HU := Lib.hid (fun ob => c_u8 w0 (w.alloc ob) gr r (rd_kept hI ((Kept.refl w (fun _ => False)).alloc ob) (fun h => h)) hs (hB.alloc hB.size ob))
  have HBk := Lib.hid hb
  have HBB := Lib.hid hB
  have HI := Lib.hid hI
  clear hI hB hb
  go_enter Tryd.func69, Tryd.ntmps69
  go_wp2_with fail
  refine (HU.out _).mono ?_
  rintro e w1 ⟨rfl, hI1, hB1, hK1⟩
  have hk1 : Kept w w1 (fun i => i = gr) := ((Kept.refl w _).alloc _).then_ hK1 (fun _ h => Or.inl h)
  have hb1 := blk_kept HBk.out hk1 hbg
  have c1 : w1.cell? ⟨b, off, none⟩ = some (cs[off]'hoff) := (cell_of_row _ _ _ _ _ _ hb1).trans (Array.getElem?_eq_getElem hoff)
  have f1 : w1.frozen? ⟨b, off, none⟩ = false := blk_frozen hb1 off
  have HI1 := Lib.hid hI1
  have HB1 := Lib.hid hB1
  have HK1 := Lib.hid hk1
  have HBK1 := Lib.hid hb1
  clear hI1 hB1 hK1 hk1 hb1
  go_wp2
  go_end0
  refine ⟨rfl, rd_kept HI1.out (Kept.setCell (S := fun i => i = b) (Kept.refl w1 _) (Or.inl rfl) _) (fun h => hbg h.symm), blk_set HBK1.out off _, HB1.out.setCell hb0 _, Kept.setCell (S := fun i => i = gr ∨ i = b) (HK1.out.mono (fun _ h => Or.inl h)) (Or.inl (Or.inr rfl)) _⟩
set_option maxHeartbeats 1000000 in
theorem in_long (w0 w : World) (gr : Nat) (r : Option (List UInt8)) (hI : IsRd w0 w gr r) (hs : small r) (hB : Below w0.heap.size w0 w) (b off : Nat) (cs : Array Value) (t : TypeId) (hb : w.heap[b]? = some (.cells cs t (0, 0))) (hoff : off < cs.size) (hbg : b ≠ gr) (hb0 : w0.heap.size ≤ b) :
    Calls Tryd.prog 106 #[.agg #[.pointer (some ⟨gr, 0, none⟩)], .pointer (some ⟨b, off, none⟩)] w fun e w' =>
      e = .returned (.tuple #[]) ∧ IsRd w0 w' gr (g 8 r).2 ∧ w'.heap[b]? = some (.cells (cs.setIfInBounds off (.int .u64 (g 8 r).1)) t (0, 0)) ∧ Below w0.heap.size w0 w' ∧ Kept w w' (fun i => i = gr ∨ i = b) := by
  have hblt := blk_lt hb
  have HU := Lib.hid (fun ob => c_u64 w0 (w.alloc ob) gr r (rd_kept hI ((Kept.refl w (fun _ => False)).alloc ob) (fun h => h)) hs (hB.alloc hB.size ob))
  have HBk := Lib.hid hb
  have HBB := Lib.hid hB
  have HI := Lib.hid hI
  clear hI hB hb
  go_enter Tryd.func106, Tryd.ntmps106
  go_wp2_with fail
  refine (HU.out _).mono ?_
  rintro e w1 ⟨rfl, hI1, hB1, hK1⟩
  have hk1 : Kept w w1 (fun i => i = gr) := ((Kept.refl w _).alloc _).then_ hK1 (fun _ h => Or.inl h)
  have hb1 := blk_kept HBk.out hk1 hbg
  have c1 : w1.cell? ⟨b, off, none⟩ = some (cs[off]'hoff) := (cell_of_row _ _ _ _ _ _ hb1).trans (Array.getElem?_eq_getElem hoff)
  have f1 : w1.frozen? ⟨b, off, none⟩ = false := blk_frozen hb1 off
  have HI1 := Lib.hid hI1
  have HB1 := Lib.hid hB1
  have HK1 := Lib.hid hk1
  have HBK1 := Lib.hid hb1
  clear hI1 hB1 hK1 hk1 hb1
  go_wp2
  go_end0
  refine ⟨rfl, rd_kept HI1.out (Kept.setCell (S := fun i => i = b) (Kept.refl w1 _) (Or.inl rfl) _) (fun h => hbg h.symm), blk_set HBK1.out off _, HB1.out.setCell hb0 _, Kept.setCell (S := fun i => i = gr ∨ i = b) (HK1.out.mono (fun _ h => Or.inl h)) (Or.inl (Or.inr rfl)) _⟩
theorem wrote_drew {w w' : World} {base go : Nat} {v : Value} {xs : List Int} (h : Wq.Wrote w.drew w' base go v xs) : Wq.Wrote w w' base go v xs := by
  obtain ⟨v', h1, h2, h3, h4⟩ := h
  exact ⟨v', h1, h2, ⟨h3.os, h3.tape, h3.output, h3.size, h3.block⟩, h4⟩
set_option maxHeartbeats 1000000 in
theorem out_byte (w : World) (base go : Nat) (v : Value) (xs : List Int) (hW : Wq.IsW w base go v xs) (hl : xs.length ≤ 1000) (b off : Nat) (n : Int) (hc : w.cell? ⟨b, off, none⟩ = some (.int .u8 n)) (h0 : 0 ≤ n) (h1 : n < 256) :
    Calls Tryd.prog 79 #[.pointer (some ⟨go, 0, none⟩), .pointer (some ⟨b, off, none⟩)] w fun e w' => e = .returned (.tuple #[]) ∧ Wq.Wrote w w' base go v (xs ++ Wr.leBytes n 1) := by
  have HU := Lib.hid (Wq.wU8 n h0 h1 base go v xs w.drew (by exact hW) (by omega))
  clear hW
  go_enter Tryd.func79, Tryd.ntmps79
  go_region_with (first | (go_at_call 28; refine (HU.out).mono ?_; rintro e w1 ⟨rfl, hw1⟩; have HW1 := Lib.hid hw1; clear hw1))
  all_goals (go_end0; exact ⟨rfl, wrote_drew HW1.out⟩)
set_option maxHeartbeats 1000000 in
theorem out_long (w : World) (base go : Nat) (v : Value) (xs : List Int) (hW : Wq.IsW w base go v xs) (hl : xs.length ≤ 1000) (b off : Nat) (n : Int) (hc : w.cell? ⟨b, off, none⟩ = some (.int .u64 n)) (h0 : 0 ≤ n) (h1 : n < 18446744073709551616) :
    Calls Tryd.prog 107 #[.pointer (some ⟨go, 0, none⟩), .pointer (some ⟨b, off, none⟩)] w fun e w' => e = .returned (.tuple #[]) ∧ Wq.Wrote w w' base go v (xs ++ Wr.leBytes n 8) := by
  have HU := Lib.hid (Wq.wU64 n h0 h1 base go v xs w.drew (by exact hW) (by omega))
  clear hW h1
  go_enter Tryd.func107, Tryd.ntmps107
  go_region_with (first | (go_at_call 27; refine (HU.out).mono ?_; rintro e w1 ⟨rfl, hw1⟩; have HW1 := Lib.hid hw1; clear hw1))
  all_goals (go_end0; exact ⟨rfl, wrote_drew HW1.out⟩)
theorem na_in_long (a : Option Addr) (w : World) : (nilAhead 278 135 (.agg #[.pointer a]) "hindcast/record.long").run Tryd.prog w = .ok (some false) w := by kernel_rfl
theorem na_in_byte (a : Option Addr) (w : World) : (nilAhead 278 135 (.agg #[.pointer a]) "hindcast/record.byte").run Tryd.prog w = .ok (some false) w := by kernel_rfl
theorem m_in_long (a : Option Addr) (w : World) : (method 278 135 (.agg #[.pointer a]) "hindcast/record.long").run Tryd.prog w = .ok (106, .agg #[.pointer a]) w := by kernel_rfl
theorem m_in_byte (a : Option Addr) (w : World) : (method 278 135 (.agg #[.pointer a]) "hindcast/record.byte").run Tryd.prog w = .ok (69, .agg #[.pointer a]) w := by kernel_rfl
theorem na_out_long (a : Addr) (w : World) : (nilAhead 278 142 (.pointer (some a)) "hindcast/record.long").run Tryd.prog w = .ok (some false) w := by kernel_rfl
theorem na_out_byte (a : Addr) (w : World) : (nilAhead 278 142 (.pointer (some a)) "hindcast/record.byte").run Tryd.prog w = .ok (some false) w := by kernel_rfl
theorem m_out_long (a : Addr) (w : World) : (method 278 142 (.pointer (some a)) "hindcast/record.long").run Tryd.prog w = .ok (107, .pointer (some a)) w := by kernel_rfl
theorem m_out_byte (a : Addr) (w : World) : (method 278 142 (.pointer (some a)) "hindcast/record.byte").run Tryd.prog w = .ok (79, .pointer (some a)) w := by kernel_rfl
end Go.Proofs.YtnhjhaphfdlkfaaDoor.Sg
/- (*record.Record).fields, over a reader and over a writer. -/
set_option linter.unusedVariables false
namespace Go.Proofs.YtnhjhaphfdlkfaaDoor.Sg
open Go.RowKit Go.Proofs.YtnhjhaphfdlkfaaDoor.HF Go.Proofs.YtnhjhaphfdlkfaaDoor.SB Go.Proofs.YtnhjhaphfdlkfaaDoorW.PrintWords Go.Proofs.YtnhjhaphfdlkfaaDoorW.PrintLast Go.Proofs.YtnhjhaphfdlkfaaDoorW.PrintMore
set_option maxHeartbeats 4000000 in
set_option maxRecDepth 100000 in
theorem in_fields1 (w0 w : World) (gr : Nat) (r : Option (List UInt8)) (hI : IsRd w0 w gr r) (hs : small r) (hB : Below w0.heap.size w0 w) (b : Nat) (R : Rec) (hk : R.kind = 1) (hb : w.heap[b]? = some (.cells R.cells 51 (0, 0))) (hbg : b ≠ gr) (hb0 : w0.heap.size ≤ b) :
    Calls Tryd.prog 70 #[.pointer (some ⟨b, 0, none⟩), .iface 135 (.agg #[.pointer (some ⟨gr, 0, none⟩)])] w fun e w' =>
      e = .returned (.bool true) ∧ IsRd w0 w' gr (g 1 (g 8 r).2).2 ∧ w'.heap[b]? = some (.cells ({ R with frame := (g 8 r).1, own := (g 1 (g 8 r).2).1 } : Rec).cells 51 (0, 0)) ∧ Below w0.heap.size w0 w' ∧ Kept w w' (fun i => i = gr ∨ i = b) := by
  have c0 : w.cell? ⟨b, 0, none⟩ = some (.int .i64 1) := by rw [← hk]; exact blk_cell hb 0
  have hs1 : small (g 8 r).2 := g_small _ _ hs
  have hs2 : small (g 1 (g 8 r).2).2 := g_small _ _ hs1
  have HI0 := Lib.hid hI
  have HB0 := Lib.hid hB
  have HC0 := Lib.hid hb
  have HK0 := Lib.hid (Kept.refl w (fun i => i = gr ∨ i = b))
  have f1 := na_in_long (some ⟨gr, 0, none⟩)
  have f2 := na_in_byte (some ⟨gr, 0, none⟩)
  have f3 := m_in_long (some ⟨gr, 0, none⟩)
  have f4 := m_in_byte (some ⟨gr, 0, none⟩)
  have HKD := Lib.hid hk
  clear hI hB hb hk
  go_enter Tryd.func70, Tryd.ntmps70
  have HU1 := Lib.hid (in_long w0 w.drew gr r HI0.out hs HB0.out.drew b 1 R.cells 51 HC0.out (by simp [Rec.cells]) hbg hb0)
  go_wp2_with fail
  go_region_with (first | (go_at_call 106; refine (HU1.out).mono ?_; rintro e w1 ⟨rfl, hI1, hb1, hB1, hK1⟩))
  have HI1 := Lib.hid hI1
  have HB1 := Lib.hid hB1
  have HC1 := Lib.hid (show w1.heap[b]? = some (.cells ({ R with frame := (g 8 r).1 } : Rec).cells 51 (0, 0)) from hb1)
  have HK1 := Lib.hid (HK0.out.then_ (W := w.drew) hK1 (fun _ h => Or.inl h))
  clear hI1 hb1 hB1 hK1
  have HU2 := Lib.hid (in_byte w0 w1.drew gr (g 8 r).2 HI1.out hs1 HB1.out.drew b 2 ({ R with frame := (g 8 r).1 } : Rec).cells 51 HC1.out (by simp [Rec.cells]) hbg hb0)
  go_wp2_with fail
  go_region_with (first | (go_at_call 69; refine (HU2.out).mono ?_; rintro e w2 ⟨rfl, hI2, hb2, hB2, hK2⟩))
  have HI2 := Lib.hid hI2
  have HB2 := Lib.hid hB2
  have HC2 := Lib.hid (show w2.heap[b]? = some (.cells ({ R with frame := (g 8 r).1, own := (g 1 (g 8 r).2).1 } : Rec).cells 51 (0, 0)) from hb2)
  have HK2 := Lib.hid (HK1.out.then_ (W := w1.drew) hK2 (fun _ h => Or.inl h))
  clear hI2 hb2 hB2 hK2
  go_wp2
  go_ret
  exact ⟨rfl, HI2.out, HC2.out, HB2.out, HK2.out⟩
set_option maxHeartbeats 4000000 in
set_option maxRecDepth 100000 in
theorem in_fields2 (w0 w : World) (gr : Nat) (r : Option (List UInt8)) (hI : IsRd w0 w gr r) (hs : small r) (hB : Below w0.heap.size w0 w) (b : Nat) (R : Rec) (hk : R.kind = 2) (hb : w.heap[b]? = some (.cells R.cells 51 (0, 0))) (hbg : b ≠ gr) (hb0 : w0.heap.size ≤ b) :
    Calls Tryd.prog 70 #[.pointer (some ⟨b, 0, none⟩), .iface 135 (.agg #[.pointer (some ⟨gr, 0, none⟩)])] w fun e w' =>
      e = .returned (.bool true) ∧ IsRd w0 w' gr (g 1 (g 1 (g 8 r).2).2).2 ∧ w'.heap[b]? = some (.cells ({ R with frame := (g 8 r).1, p0 := (g 1 (g 8 r).2).1, p1 := (g 1 (g 1 (g 8 r).2).2).1 } : Rec).cells 51 (0, 0)) ∧ Below w0.heap.size w0 w' ∧ Kept w w' (fun i => i = gr ∨ i = b) := by
  have c0 : w.cell? ⟨b, 0, none⟩ = some (.int .i64 2) := by rw [← hk]; exact blk_cell hb 0
  have hs1 : small (g 8 r).2 := g_small _ _ hs
  have hs2 : small (g 1 (g 8 r).2).2 := g_small _ _ hs1
  have hs3 : small (g 1 (g 1 (g 8 r).2).2).2 := g_small _ _ hs2
  have HI0 := Lib.hid hI
  have HB0 := Lib.hid hB
  have HC0 := Lib.hid hb
  have HK0 := Lib.hid (Kept.refl w (fun i => i = gr ∨ i = b))
  have f1 := na_in_long (some ⟨gr, 0, none⟩)
  have f2 := na_in_byte (some ⟨gr, 0, none⟩)
  have f3 := m_in_long (some ⟨gr, 0, none⟩)
  have f4 := m_in_byte (some ⟨gr, 0, none⟩)
  have HKD := Lib.hid hk
  clear hI hB hb hk
  go_enter Tryd.func70, Tryd.ntmps70
  have HU1 := Lib.hid (in_long w0 w.drew gr r HI0.out hs HB0.out.drew b 1 R.cells 51 HC0.out (by simp [Rec.cells]) hbg hb0)
  go_wp2_with fail
  go_region_with (first | (go_at_call 106; refine (HU1.out).mono ?_; rintro e w1 ⟨rfl, hI1, hb1, hB1, hK1⟩))
  have HI1 := Lib.hid hI1
  have HB1 := Lib.hid hB1
  have HC1 := Lib.hid (show w1.heap[b]? = some (.cells ({ R with frame := (g 8 r).1 } : Rec).cells 51 (0, 0)) from hb1)
  have HK1 := Lib.hid (HK0.out.then_ (W := w.drew) hK1 (fun _ h => Or.inl h))
  clear hI1 hb1 hB1 hK1
  have HU2 := Lib.hid (in_byte w0 w1.drew gr (g 8 r).2 HI1.out hs1 HB1.out.drew b 3 ({ R with frame := (g 8 r).1 } : Rec).cells 51 HC1.out (by simp [Rec.cells]) hbg hb0)
  go_wp2_with fail
  go_region_with (first | (go_at_call 69; refine (HU2.out).mono ?_; rintro e w2 ⟨rfl, hI2, hb2, hB2, hK2⟩))
  have HI2 := Lib.hid hI2
  have HB2 := Lib.hid hB2
  have HC2 := Lib.hid (show w2.heap[b]? = some (.cells ({ R with frame := (g 8 r).1, p0 := (g 1 (g 8 r).2).1 } : Rec).cells 51 (0, 0)) from hb2)
  have HK2 := Lib.hid (HK1.out.then_ (W := w1.drew) hK2 (fun _ h => Or.inl h))
  clear hI2 hb2 hB2 hK2
  have HU3 := Lib.hid (in_byte w0 w2.drew gr (g 1 (g 8 r).2).2 HI2.out hs2 HB2.out.drew b 4 ({ R with frame := (g 8 r).1, p0 := (g 1 (g 8 r).2).1 } : Rec).cells 51 HC2.out (by simp [Rec.cells]) hbg hb0)
  go_wp2_with fail
  go_region_with (first | (go_at_call 69; refine (HU3.out).mono ?_; rintro e w3 ⟨rfl, hI3, hb3, hB3, hK3⟩))
  have HI3 := Lib.hid hI3
  have HB3 := Lib.hid hB3
  have HC3 := Lib.hid (show w3.heap[b]? = some (.cells ({ R with frame := (g 8 r).1, p0 := (g 1 (g 8 r).2).1, p1 := (g 1 (g 1 (g 8 r).2).2).1 } : Rec).cells 51 (0, 0)) from hb3)
  have HK3 := Lib.hid (HK2.out.then_ (W := w2.drew) hK3 (fun _ h => Or.inl h))
  clear hI3 hb3 hB3 hK3
  go_wp2
  go_ret
  exact ⟨rfl, HI3.out, HC3.out, HB3.out, HK3.out⟩
set_option maxHeartbeats 4000000 in
set_option maxRecDepth 100000 in
theorem in_fields3 (w0 w : World) (gr : Nat) (r : Option (List UInt8)) (hI : IsRd w0 w gr r) (hs : small r) (hB : Below w0.heap.size w0 w) (b : Nat) (R : Rec) (hk : R.kind = 3) (hb : w.heap[b]? = some (.cells R.cells 51 (0, 0))) (hbg : b ≠ gr) (hb0 : w0.heap.size ≤ b) :
    Calls Tryd.prog 70 #[.pointer (some ⟨b, 0, none⟩), .iface 135 (.agg #[.pointer (some ⟨gr, 0, none⟩)])] w fun e w' =>
      e = .returned (.bool true) ∧ IsRd w0 w' gr (g 1 (g 8 (g 8 (g 8 r).2).2).2).2 ∧ w'.heap[b]? = some (.cells ({ R with seg := (g 8 r).1, first := (g 8 (g 8 r).2).1, epoch := (g 8 (g 8 (g 8 r).2).2).1, player := (g 1 (g 8 (g 8 (g 8 r).2).2).2).1 } : Rec).cells 51 (0, 0)) ∧ Below w0.heap.size w0 w' ∧ Kept w w' (fun i => i = gr ∨ i = b) := by
  have c0 : w.cell? ⟨b, 0, none⟩ = some (.int .i64 3) := by rw [← hk]; exact blk_cell hb 0
  have hs1 : small (g 8 r).2 := g_small _ _ hs
  have hs2 : small (g 8 (g 8 r).2).2 := g_small _ _ hs1
  have hs3 : small (g 8 (g 8 (g 8 r).2).2).2 := g_small _ _ hs2
  have hs4 : small (g 1 (g 8 (g 8 (g 8 r).2).2).2).2 := g_small _ _ hs3
  have HI0 := Lib.hid hI
  have HB0 := Lib.hid hB
  have HC0 := Lib.hid hb
  have HK0 := Lib.hid (Kept.refl w (fun i => i = gr ∨ i = b))
  have f1 := na_in_long (some ⟨gr, 0, none⟩)
  have f2 := na_in_byte (some ⟨gr, 0, none⟩)
  have f3 := m_in_long (some ⟨gr, 0, none⟩)
  have f4 := m_in_byte (some ⟨gr, 0, none⟩)
  have HKD := Lib.hid hk
  clear hI hB hb hk
  go_enter Tryd.func70, Tryd.ntmps70
  have HU1 := Lib.hid (in_long w0 w.drew gr r HI0.out hs HB0.out.drew b 5 R.cells 51 HC0.out (by simp [Rec.cells]) hbg hb0)
  go_wp2_with fail
  go_region_with (first | (go_at_call 106; refine (HU1.out).mono ?_; rintro e w1 ⟨rfl, hI1, hb1, hB1, hK1⟩))
  have HI1 := Lib.hid hI1
  have HB1 := Lib.hid hB1
  have HC1 := Lib.hid (show w1.heap[b]? = some (.cells ({ R with seg := (g 8 r).1 } : Rec).cells 51 (0, 0)) from hb1)
  have HK1 := Lib.hid (HK0.out.then_ (W := w.drew) hK1 (fun _ h => Or.inl h))
  clear hI1 hb1 hB1 hK1
  have HU2 := Lib.hid (in_long w0 w1.drew gr (g 8 r).2 HI1.out hs1 HB1.out.drew b 6 ({ R with seg := (g 8 r).1 } : Rec).cells 51 HC1.out (by simp [Rec.cells]) hbg hb0)
  go_wp2_with fail
  go_region_with (first | (go_at_call 106; refine (HU2.out).mono ?_; rintro e w2 ⟨rfl, hI2, hb2, hB2, hK2⟩))
  have HI2 := Lib.hid hI2
  have HB2 := Lib.hid hB2
  have HC2 := Lib.hid (show w2.heap[b]? = some (.cells ({ R with seg := (g 8 r).1, first := (g 8 (g 8 r).2).1 } : Rec).cells 51 (0, 0)) from hb2)
  have HK2 := Lib.hid (HK1.out.then_ (W := w1.drew) hK2 (fun _ h => Or.inl h))
  clear hI2 hb2 hB2 hK2
  have HU3 := Lib.hid (in_long w0 w2.drew gr (g 8 (g 8 r).2).2 HI2.out hs2 HB2.out.drew b 7 ({ R with seg := (g 8 r).1, first := (g 8 (g 8 r).2).1 } : Rec).cells 51 HC2.out (by simp [Rec.cells]) hbg hb0)
  go_wp2_with fail
  go_region_with (first | (go_at_call 106; refine (HU3.out).mono ?_; rintro e w3 ⟨rfl, hI3, hb3, hB3, hK3⟩))
  have HI3 := Lib.hid hI3
  have HB3 := Lib.hid hB3
  have HC3 := Lib.hid (show w3.heap[b]? = some (.cells ({ R with seg := (g 8 r).1, first := (g 8 (g 8 r).2).1, epoch := (g 8 (g 8 (g 8 r).2).2).1 } : Rec).cells 51 (0, 0)) from hb3)
  have HK3 := Lib.hid (HK2.out.then_ (W := w2.drew) hK3 (fun _ h => Or.inl h))
  clear hI3 hb3 hB3 hK3
  have HU4 := Lib.hid (in_byte w0 w3.drew gr (g 8 (g 8 (g 8 r).2).2).2 HI3.out hs3 HB3.out.drew b 8 ({ R with seg := (g 8 r).1, first := (g 8 (g 8 r).2).1, epoch := (g 8 (g 8 (g 8 r).2).2).1 } : Rec).cells 51 HC3.out (by simp [Rec.cells]) hbg hb0)
  go_wp2_with fail
  go_region_with (first | (go_at_call 69; refine (HU4.out).mono ?_; rintro e w4 ⟨rfl, hI4, hb4, hB4, hK4⟩))
  have HI4 := Lib.hid hI4
  have HB4 := Lib.hid hB4
  have HC4 := Lib.hid (show w4.heap[b]? = some (.cells ({ R with seg := (g 8 r).1, first := (g 8 (g 8 r).2).1, epoch := (g 8 (g 8 (g 8 r).2).2).1, player := (g 1 (g 8 (g 8 (g 8 r).2).2).2).1 } : Rec).cells 51 (0, 0)) from hb4)
  have HK4 := Lib.hid (HK3.out.then_ (W := w3.drew) hK4 (fun _ h => Or.inl h))
  clear hI4 hb4 hB4 hK4
  go_wp2
  go_ret
  exact ⟨rfl, HI4.out, HC4.out, HB4.out, HK4.out⟩
set_option maxHeartbeats 4000000 in
set_option maxRecDepth 100000 in
theorem fields_none (w : World) (b : Nat) (R : Rec) (hk : R.kind ≠ 1 ∧ R.kind ≠ 2 ∧ R.kind ≠ 3) (hb : w.heap[b]? = some (.cells R.cells 51 (0, 0))) (p : Value) :
    Calls Tryd.prog 70 #[.pointer (some ⟨b, 0, none⟩), p] w fun e w' => e = .returned (.bool false) ∧ w = w' := by
  have c0 : w.cell? ⟨b, 0, none⟩ = some (.int .i64 R.kind) := blk_cell hb 0
  have n1 : (R.kind == 1) = false := by simp [hk.1]
  have n2 : (R.kind == 2) = false := by simp [hk.2.1]
  have n3 : (R.kind == 3) = false := by simp [hk.2.2]
  clear hb hk
  go_enter Tryd.func70, Tryd.ntmps70
  go_wp2
  go_ret
  exact ⟨rfl, rfl⟩
theorem wrote_app {w w1 w2 : World} {base go : Nat} {v v1 : Value} {ys : List Int} (h : Kept w w1 (Wq.Foot go v) ∧ Below base w w1 ∧ (v1.ownBlock = v.ownBlock ∨ ∃ b, v1.ownBlock = some b ∧ w.heap.size ≤ b)) (k : Wq.Wrote w1 w2 base go v1 ys) : Wq.Wrote w w2 base go v ys := by
  obtain ⟨h2, h3, h4⟩ := h
  obtain ⟨v2, k1, k2, k3, k4⟩ := k
  refine ⟨v2, k1, h2.then_ k2 (fun i hi => ?_), h3.trans k3, ?_⟩
  · rcases hi with rfl | hi
    · exact Or.inl (Or.inl rfl)
    · rcases h4 with h | ⟨b, h, hb⟩
      · exact Or.inl (Or.inr (h ▸ hi))
      · rw [h] at hi; cases hi; exact Or.inr hb
  · rcases k4 with e | ⟨b, e, hb⟩
    · rcases h4 with h | ⟨b, h, hb⟩
      · exact Or.inl (e.trans h)
      · exact Or.inr ⟨b, e.trans h, hb⟩
    · exact Or.inr ⟨b, e, Nat.le_trans h2.1 hb⟩
/-- A block that the writer does not write. -/
theorem wrote_blk {w w1 : World} {base go b : Nat} {v : Value} {xs : List Int} {o : Obj} (h : Wq.Wrote w w1 base go v xs) (hb : w.heap[b]? = some o) (h1 : b ≠ go) (h2 : v.ownBlock ≠ some b) : w1.heap[b]? = some o := by
  obtain ⟨v1, k1, k2, k3, k4⟩ := h
  refine blk_kept hb k2 (fun hf => ?_)
  rcases hf with hf | hf
  · exact h1 hf
  · exact h2 hf
set_option maxHeartbeats 4000000 in
set_option maxRecDepth 100000 in
theorem out_fields1 (w : World) (base go : Nat) (v : Value) (xs : List Int) (hW : Wq.IsW w base go v xs) (hl : xs.length ≤ 100) (b : Nat) (R : Rec) (hk : R.kind = 1) (hb : w.heap[b]? = some (.cells R.cells 51 (0, 0))) (hbg : b ≠ go) (hbv : v.ownBlock ≠ some b) (hr : 0 ≤ R.frame ∧ R.frame < 18446744073709551616 ∧ 0 ≤ R.own ∧ R.own < 256) :
    Calls Tryd.prog 70 #[.pointer (some ⟨b, 0, none⟩), .iface 142 (.pointer (some ⟨go, 0, none⟩))] w fun e w' => e = .returned (.bool true) ∧ Wq.Wrote w w' base go v (xs ++ Wr.leBytes R.frame 8 ++ Wr.leBytes R.own 1) := by
  have c0 : w.cell? ⟨b, 0, none⟩ = some (.int .i64 1) := by rw [← hk]; exact blk_cell hb 0
  have HW0 := Lib.hid hW
  have HC0 := Lib.hid hb
  have HV0 := Lib.hid hbv
  have HR := Lib.hid hr
  have f1 := na_out_long ⟨go, 0, none⟩
  have f2 := na_out_byte ⟨go, 0, none⟩
  have f3 := m_out_long ⟨go, 0, none⟩
  have f4 := m_out_byte ⟨go, 0, none⟩
  have HKD := Lib.hid hk
  have hlt := blk_lt hb
  clear hW hb hbv hr hk
  go_enter Tryd.func70, Tryd.ntmps70
  have HU1 := Lib.hid (out_long w.drew base go v xs (by exact HW0.out) (by (repeat rw [List.length_append]); (repeat rw [Wr.leBytes_len]); omega) b 1 R.frame (blk_cell (w := w.drew) HC0.out 1) HR.out.1 HR.out.2.1)
  go_wp2_with fail
  go_region_with (first | (go_at_call 107; refine (HU1.out).mono ?_; rintro e w1 ⟨rfl, hw1⟩))
  have hw1' := wrote_drew hw1
  have HX1 := Lib.hid hw1'
  obtain ⟨v1, a1, a2, a3, a4⟩ := hw1'
  have HW1 := Lib.hid a1
  have HA1 := Lib.hid (And.intro a2 (And.intro a3 a4))
  have HC1 := Lib.hid (wrote_blk HX1.out HC0.out hbg HV0.out)
  have HV1 := Lib.hid (show v1.ownBlock ≠ some b by
    intro e
    rcases a4 with h | ⟨b', h, hb'⟩
    · exact HV0.out (h ▸ e)
    · rw [h] at e
      cases e
      have := blk_lt HC0.out
      omega)
  clear hw1 a1 a2 a3 a4
  have HU2 := Lib.hid (out_byte w1.drew base go v1 (xs ++ Wr.leBytes R.frame 8) (by exact HW1.out) (by (repeat rw [List.length_append]); (repeat rw [Wr.leBytes_len]); omega) b 2 R.own (blk_cell (w := w1.drew) HC1.out 2) HR.out.2.2.1 HR.out.2.2.2)
  go_wp2_with fail
  go_region_with (first | (go_at_call 79; refine (HU2.out).mono ?_; rintro e w2 ⟨rfl, hw2⟩))
  have hw2' := wrote_drew hw2
  have HX2 := Lib.hid hw2'
  obtain ⟨v2, a1, a2, a3, a4⟩ := hw2'
  have HW2 := Lib.hid a1
  have HA2 := Lib.hid (And.intro a2 (And.intro a3 a4))
  have HC2 := Lib.hid (wrote_blk HX2.out HC1.out hbg HV1.out)
  have HV2 := Lib.hid (show v2.ownBlock ≠ some b by
    intro e
    rcases a4 with h | ⟨b', h, hb'⟩
    · exact HV1.out (h ▸ e)
    · rw [h] at e
      cases e
      have := blk_lt HC1.out
      omega)
  clear hw2 a1 a2 a3 a4
  go_wp2
  go_ret
  refine ⟨rfl, ?_⟩
  exact (wrote_app HA1.out HX2.out)
set_option maxHeartbeats 4000000 in
set_option maxRecDepth 100000 in
theorem out_fields2 (w : World) (base go : Nat) (v : Value) (xs : List Int) (hW : Wq.IsW w base go v xs) (hl : xs.length ≤ 100) (b : Nat) (R : Rec) (hk : R.kind = 2) (hb : w.heap[b]? = some (.cells R.cells 51 (0, 0))) (hbg : b ≠ go) (hbv : v.ownBlock ≠ some b) (hr : 0 ≤ R.frame ∧ R.frame < 18446744073709551616 ∧ 0 ≤ R.p0 ∧ R.p0 < 256 ∧ 0 ≤ R.p1 ∧ R.p1 < 256) :
    Calls Tryd.prog 70 #[.pointer (some ⟨b, 0, none⟩), .iface 142 (.pointer (some ⟨go, 0, none⟩))] w fun e w' => e = .returned (.bool true) ∧ Wq.Wrote w w' base go v (xs ++ Wr.leBytes R.frame 8 ++ Wr.leBytes R.p0 1 ++ Wr.leBytes R.p1 1) := by
  have c0 : w.cell? ⟨b, 0, none⟩ = some (.int .i64 2) := by rw [← hk]; exact blk_cell hb 0
  have HW0 := Lib.hid hW
  have HC0 := Lib.hid hb
  have HV0 := Lib.hid hbv
  have HR := Lib.hid hr
  have f1 := na_out_long ⟨go, 0, none⟩
  have f2 := na_out_byte ⟨go, 0, none⟩
  have f3 := m_out_long ⟨go, 0, none⟩
  have f4 := m_out_byte ⟨go, 0, none⟩
  have HKD := Lib.hid hk
  have hlt := blk_lt hb
  clear hW hb hbv hr hk
  go_enter Tryd.func70, Tryd.ntmps70
  have HU1 := Lib.hid (out_long w.drew base go v xs (by exact HW0.out) (by (repeat rw [List.length_append]); (repeat rw [Wr.leBytes_len]); omega) b 1 R.frame (blk_cell (w := w.drew) HC0.out 1) HR.out.1 HR.out.2.1)
  go_wp2_with fail
  go_region_with (first | (go_at_call 107; refine (HU1.out).mono ?_; rintro e w1 ⟨rfl, hw1⟩))
  have hw1' := wrote_drew hw1
  have HX1 := Lib.hid hw1'
  obtain ⟨v1, a1, a2, a3, a4⟩ := hw1'
  have HW1 := Lib.hid a1
  have HA1 := Lib.hid (And.intro a2 (And.intro a3 a4))
  have HC1 := Lib.hid (wrote_blk HX1.out HC0.out hbg HV0.out)
  have HV1 := Lib.hid (show v1.ownBlock ≠ some b by
    intro e
    rcases a4 with h | ⟨b', h, hb'⟩
    · exact HV0.out (h ▸ e)
    · rw [h] at e
      cases e
      have := blk_lt HC0.out
      omega)
  clear hw1 a1 a2 a3 a4
  have HU2 := Lib.hid (out_byte w1.drew base go v1 (xs ++ Wr.leBytes R.frame 8) (by exact HW1.out) (by (repeat rw [List.length_append]); (repeat rw [Wr.leBytes_len]); omega) b 3 R.p0 (blk_cell (w := w1.drew) HC1.out 3) HR.out.2.2.1 HR.out.2.2.2.1)
  go_wp2_with fail
  go_region_with (first | (go_at_call 79; refine (HU2.out).mono ?_; rintro e w2 ⟨rfl, hw2⟩))
  have hw2' := wrote_drew hw2
  have HX2 := Lib.hid hw2'
  obtain ⟨v2, a1, a2, a3, a4⟩ := hw2'
  have HW2 := Lib.hid a1
  have HA2 := Lib.hid (And.intro a2 (And.intro a3 a4))
  have HC2 := Lib.hid (wrote_blk HX2.out HC1.out hbg HV1.out)
  have HV2 := Lib.hid (show v2.ownBlock ≠ some b by
    intro e
    rcases a4 with h | ⟨b', h, hb'⟩
    · exact HV1.out (h ▸ e)
    · rw [h] at e
      cases e
      have := blk_lt HC1.out
      omega)
  clear hw2 a1 a2 a3 a4
  have HU3 := Lib.hid (out_byte w2.drew base go v2 (xs ++ Wr.leBytes R.frame 8 ++ Wr.leBytes R.p0 1) (by exact HW2.out) (by (repeat rw [List.length_append]); (repeat rw [Wr.leBytes_len]); omega) b 4 R.p1 (blk_cell (w := w2.drew) HC2.out 4) HR.out.2.2.2.2.1 HR.out.2.2.2.2.2)
  go_wp2_with fail
  go_region_with (first | (go_at_call 79; refine (HU3.out).mono ?_; rintro e w3 ⟨rfl, hw3⟩))
  have hw3' := wrote_drew hw3
  have HX3 := Lib.hid hw3'
  obtain ⟨v3, a1, a2, a3, a4⟩ := hw3'
  have HW3 := Lib.hid a1
  have HA3 := Lib.hid (And.intro a2 (And.intro a3 a4))
  have HC3 := Lib.hid (wrote_blk HX3.out HC2.out hbg HV2.out)
  have HV3 := Lib.hid (show v3.ownBlock ≠ some b by
    intro e
    rcases a4 with h | ⟨b', h, hb'⟩
    · exact HV2.out (h ▸ e)
    · rw [h] at e
      cases e
      have := blk_lt HC2.out
      omega)
  clear hw3 a1 a2 a3 a4
  go_wp2
  go_ret
  refine ⟨rfl, ?_⟩
  exact (wrote_app HA1.out (wrote_app HA2.out HX3.out))
set_option maxHeartbeats 4000000 in
set_option maxRecDepth 100000 in
theorem out_fields3 (w : World) (base go : Nat) (v : Value) (xs : List Int) (hW : Wq.IsW w base go v xs) (hl : xs.length ≤ 100) (b : Nat) (R : Rec) (hk : R.kind = 3) (hb : w.heap[b]? = some (.cells R.cells 51 (0, 0))) (hbg : b ≠ go) (hbv : v.ownBlock ≠ some b) (hr : 0 ≤ R.seg ∧ R.seg < 18446744073709551616 ∧ 0 ≤ R.first ∧ R.first < 18446744073709551616 ∧ 0 ≤ R.epoch ∧ R.epoch < 18446744073709551616 ∧ 0 ≤ R.player ∧ R.player < 256) :
    Calls Tryd.prog 70 #[.pointer (some ⟨b, 0, none⟩), .iface 142 (.pointer (some ⟨go, 0, none⟩))] w fun e w' => e = .returned (.bool true) ∧ Wq.Wrote w w' base go v (xs ++ Wr.leBytes R.seg 8 ++ Wr.leBytes R.first 8 ++ Wr.leBytes R.epoch 8 ++ Wr.leBytes R.player 1) := by
  have c0 : w.cell? ⟨b, 0, none⟩ = some (.int .i64 3) := by rw [← hk]; exact blk_cell hb 0
  have HW0 := Lib.hid hW
  have HC0 := Lib.hid hb
  have HV0 := Lib.hid hbv
  have HR := Lib.hid hr
  have f1 := na_out_long ⟨go, 0, none⟩
  have f2 := na_out_byte ⟨go, 0, none⟩
  have f3 := m_out_long ⟨go, 0, none⟩
  have f4 := m_out_byte ⟨go, 0, none⟩
  have HKD := Lib.hid hk
  have hlt := blk_lt hb
  clear hW hb hbv hr hk
  go_enter Tryd.func70, Tryd.ntmps70
  have HU1 := Lib.hid (out_long w.drew base go v xs (by exact HW0.out) (by (repeat rw [List.length_append]); (repeat rw [Wr.leBytes_len]); omega) b 5 R.seg (blk_cell (w := w.drew) HC0.out 5) HR.out.1 HR.out.2.1)
  go_wp2_with fail
  go_region_with (first | (go_at_call 107; refine (HU1.out).mono ?_; rintro e w1 ⟨rfl, hw1⟩))
  have hw1' := wrote_drew hw1
  have HX1 := Lib.hid hw1'
  obtain ⟨v1, a1, a2, a3, a4⟩ := hw1'
  have HW1 := Lib.hid a1
  have HA1 := Lib.hid (And.intro a2 (And.intro a3 a4))
  have HC1 := Lib.hid (wrote_blk HX1.out HC0.out hbg HV0.out)
  have HV1 := Lib.hid (show v1.ownBlock ≠ some b by
    intro e
    rcases a4 with h | ⟨b', h, hb'⟩
    · exact HV0.out (h ▸ e)
    · rw [h] at e
      cases e
      have := blk_lt HC0.out
      omega)
  clear hw1 a1 a2 a3 a4
  have HU2 := Lib.hid (out_long w1.drew base go v1 (xs ++ Wr.leBytes R.seg 8) (by exact HW1.out) (by (repeat rw [List.length_append]); (repeat rw [Wr.leBytes_len]); omega) b 6 R.first (blk_cell (w := w1.drew) HC1.out 6) HR.out.2.2.1 HR.out.2.2.2.1)
  go_wp2_with fail
  go_region_with (first | (go_at_call 107; refine (HU2.out).mono ?_; rintro e w2 ⟨rfl, hw2⟩))
  have hw2' := wrote_drew hw2
  have HX2 := Lib.hid hw2'
  obtain ⟨v2, a1, a2, a3, a4⟩ := hw2'
  have HW2 := Lib.hid a1
  have HA2 := Lib.hid (And.intro a2 (And.intro a3 a4))
  have HC2 := Lib.hid (wrote_blk HX2.out HC1.out hbg HV1.out)
  have HV2 := Lib.hid (show v2.ownBlock ≠ some b by
    intro e
    rcases a4 with h | ⟨b', h, hb'⟩
    · exact HV1.out (h ▸ e)
    · rw [h] at e
      cases e
      have := blk_lt HC1.out
      omega)
  clear hw2 a1 a2 a3 a4
  have HU3 := Lib.hid (out_long w2.drew base go v2 (xs ++ Wr.leBytes R.seg 8 ++ Wr.leBytes R.first 8) (by exact HW2.out) (by (repeat rw [List.length_append]); (repeat rw [Wr.leBytes_len]); omega) b 7 R.epoch (blk_cell (w := w2.drew) HC2.out 7) HR.out.2.2.2.2.1 HR.out.2.2.2.2.2.1)
  go_wp2_with fail
  go_region_with (first | (go_at_call 107; refine (HU3.out).mono ?_; rintro e w3 ⟨rfl, hw3⟩))
  have hw3' := wrote_drew hw3
  have HX3 := Lib.hid hw3'
  obtain ⟨v3, a1, a2, a3, a4⟩ := hw3'
  have HW3 := Lib.hid a1
  have HA3 := Lib.hid (And.intro a2 (And.intro a3 a4))
  have HC3 := Lib.hid (wrote_blk HX3.out HC2.out hbg HV2.out)
  have HV3 := Lib.hid (show v3.ownBlock ≠ some b by
    intro e
    rcases a4 with h | ⟨b', h, hb'⟩
    · exact HV2.out (h ▸ e)
    · rw [h] at e
      cases e
      have := blk_lt HC2.out
      omega)
  clear hw3 a1 a2 a3 a4
  have HU4 := Lib.hid (out_byte w3.drew base go v3 (xs ++ Wr.leBytes R.seg 8 ++ Wr.leBytes R.first 8 ++ Wr.leBytes R.epoch 8) (by exact HW3.out) (by (repeat rw [List.length_append]); (repeat rw [Wr.leBytes_len]); omega) b 8 R.player (blk_cell (w := w3.drew) HC3.out 8) HR.out.2.2.2.2.2.2.1 HR.out.2.2.2.2.2.2.2)
  go_wp2_with fail
  go_region_with (first | (go_at_call 79; refine (HU4.out).mono ?_; rintro e w4 ⟨rfl, hw4⟩))
  have hw4' := wrote_drew hw4
  have HX4 := Lib.hid hw4'
  obtain ⟨v4, a1, a2, a3, a4⟩ := hw4'
  have HW4 := Lib.hid a1
  have HA4 := Lib.hid (And.intro a2 (And.intro a3 a4))
  have HC4 := Lib.hid (wrote_blk HX4.out HC3.out hbg HV3.out)
  have HV4 := Lib.hid (show v4.ownBlock ≠ some b by
    intro e
    rcases a4 with h | ⟨b', h, hb'⟩
    · exact HV3.out (h ▸ e)
    · rw [h] at e
      cases e
      have := blk_lt HC3.out
      omega)
  clear hw4 a1 a2 a3 a4
  go_wp2
  go_ret
  refine ⟨rfl, ?_⟩
  exact (wrote_app HA1.out (wrote_app HA2.out (wrote_app HA3.out HX4.out)))
end Go.Proofs.YtnhjhaphfdlkfaaDoor.Sg
/- record.Take. -/
set_option linter.unusedVariables false
namespace Go.Proofs.YtnhjhaphfdlkfaaDoor.Sg
open Go.RowKit Go.Proofs.YtnhjhaphfdlkfaaDoor.HF Go.Proofs.YtnhjhaphfdlkfaaDoor.SB Go.Proofs.YtnhjhaphfdlkfaaDoorW.PrintWords Go.Proofs.YtnhjhaphfdlkfaaDoorW.PrintLast Go.Proofs.YtnhjhaphfdlkfaaDoorW.PrintMore
def Rec.right (R : Rec) : Bool := decide (R.own < 64) && (decide (R.p0 < 64) && (decide (R.p1 < 64) && decide (R.player ≤ 1)))
theorem rd_base {w0 w1 w : World} {g : Nat} {r : Option (List UInt8)} (h : IsRd w1 w g r) (hb : w0.heap.size ≤ w1.heap.size) : IsRd w0 w g r := ⟨h.1, Nat.le_trans hb h.2⟩
theorem blk_alloc {w : World} {b : Nat} {o : Obj} (h : w.heap[b]? = some o) (x : Obj) : (w.alloc x).heap[b]? = some o := (Below.heap_alloc w x b (blk_lt h)).trans h
theorem blk_alloc2 (w : World) (x y : Obj) : ((w.alloc x).alloc y).heap[w.heap.size + 1]? = some y := by
  have := heap_alloc_new (w.alloc x) y
  simpa using this
section
variable {P : Program} {ops : Array Oper} {rest : List Oper} {o : Oper} {a : Act} {Q : Exit → Act → World → Prop} {W : World}
theorem gate_load {t : TypeId} {p : Tmp} (_ho : o.op = .load t (.tmp p)) (h : wpList P ops Q (o :: rest) a W) : wpList P ops Q (o :: rest) a W := h
theorem Rec.size (R : Rec) : R.cells.size = 9 := rfl
theorem Rec.ones (R : Rec) : R.cells.all (·.oneCell') = true := by simp [Rec.cells, Value.oneCell']
/-- A record is stored into a block of its own. -/
theorem store_rec (hgd : o.guard = none) (ty : TypeId) (x y : Operand) (ho : o.op = .store ty x y) (hi : (P.info? ty).map (·.size) = some 9) (b : Nat) (T : TypeId) (R R0 : Rec) (hx : a.eval x = .pointer (some ⟨b, 0, none⟩)) (hy : a.eval y = R.val)
    (hb : W.heap[b]? = some (.cells R0.cells T (0, 0)))
    (h : ∀ w', w'.heap[b]? = some (.cells R.cells T (0, 0)) → Kept W w' (fun i => i = b) → (∀ B w0, B ≤ b → Below B w0 W → Below B w0 w') → wpList P ops Q rest (a.put o.dst undef) w') : wpList P ops Q (o :: rest) a W := by
  refine wpList_store_mid hgd ty x y ho b 0 R.cells hx hy ?_ hi R.ones ?_
  · intro j hj
    have hj' : j < R0.cells.size := hj
    refine ⟨?_, blk_frozen hb _⟩
    rw [Nat.zero_add, blk_cell hb j, Array.getElem?_eq_getElem hj']
    rfl
  · obtain ⟨cur, h1, h2, h3⟩ := setCells_row (g := b) R.cells.toList 0 W R0.cells hb (by rw [Array.length_toList, R.size, R0.size]; exact Nat.le_refl _)
    obtain ⟨s1, s2, s3, s4⟩ := setCells_same b R.cells.toList 0 W
    have hcur : cur = R.cells := by
      apply Array.toList_inj.1
      rw [h3, List.take_zero, List.nil_append, List.drop_eq_nil_of_le (by rw [Array.length_toList, Array.length_toList, R.size, R0.size]; exact Nat.le_refl _), List.append_nil]
    rw [hcur] at h1
    refine h _ h1 ⟨by rw [s4]; exact Nat.le_refl _, fun i _ hn => setCells_far _ _ i hn⟩ (fun B w0 hB hw => ?_)
    exact ⟨s1.trans hw.os, s2.trans hw.tape, s3.trans hw.output, by rw [s4]; exact hw.size, fun i hi => (setCells_far _ _ i (by omega)).trans (hw.block i hi)⟩
/-- A record is read, whole, out of a block of its own. -/
theorem load_rec (hgd : o.guard = none) (ty : TypeId) (x : Operand) (ho : o.op = .load ty x) (d : TypeDesc) (hu : P.underlying ty = some d) (hd : d.isRow = true) (hi : (P.info? ty).map (·.size) = some 9) (b : Nat) (T : TypeId) (R : Rec) (hx : a.eval x = .pointer (some ⟨b, 0, none⟩))
    (hb : W.heap[b]? = some (.cells R.cells T (0, 0))) (h : wpList P ops Q rest (a.put o.dst R.val) W) : wpList P ops Q (o :: rest) a W := by
  refine wpList_load_mid hgd ty x ho b 0 hx R.cells.toList d ?_ hu hd hi ?_
  · intro j v hv
    rw [Nat.zero_add, blk_cell hb j, ← Array.getElem?_toList]; exact hv
  · exact h
end
theorem info51 : (Tryd.prog.info? 51).map (·.size) = some 9 := by kernel_rfl
theorem take_res {tmps : Array Value} {w : World} (b : Nat) (R : Rec) (h2 : tmps.getD 2 undef = .pointer (some ⟨b, 0, none⟩)) (hb : w.heap[b]? = some (.cells R.cells 51 (0, 0))) : (results Tryd.f50 tmps).run Tryd.prog w = .ok (.tuple #[R.val, tmps.getD 3 undef]) w :=
  results_list (rs := [.cell 2 51, .tmp 3]) Tryd.results50 (by simp) (.cell b 51 R.cells (0, 0) _ h2 hb Tryd.underlying51 rfl info51 (.tmp .nil))
set_option maxHeartbeats 1000000 in
set_option maxRecDepth 100000 in
theorem right_calls (w : World) (R : Rec) : Calls Tryd.prog 71 #[R.val] w fun e w' => e = .returned (.bool R.right) ∧ Below w.heap.size w w' := by
  unfold Rec.val Rec.cells
  have hb : ∀ o m, Below w.heap.size w ((w.alloc o).drewN m) := fun o m => pw_below_drewN ((Below.refl w.heap.size w).alloc (Nat.le_refl _) o) m
  have HBB := Lib.hid hb
  clear hb
  by_cases h1 : R.own < 64
  · have d1 : decide (R.own < 64) = true := decide_eq_true h1
    by_cases h2 : R.p0 < 64
    · have d2 : decide (R.p0 < 64) = true := decide_eq_true h2
      by_cases h3 : R.p1 < 64
      · have d3 : decide (R.p1 < 64) = true := decide_eq_true h3
        have HF := Lib.hid (show R.right = decide (R.player ≤ 1) by unfold Rec.right; rw [d1, d2, d3]; simp)
        go_enter Tryd.func71, Tryd.ntmps71
        go_wp2_with (first | (go_at_call 87; refine (c_legal _ _).mono ?_; rintro e w1 ⟨rfl, ⟨m, rfl⟩⟩))
        go_ret
        exact ⟨by rw [HF.out]; rfl, HBB.out _ _⟩
      · have d3 : decide (R.p1 < 64) = false := decide_eq_false h3
        have HF := Lib.hid (show R.right = false by unfold Rec.right; rw [d3]; simp)
        go_enter Tryd.func71, Tryd.ntmps71
        go_wp2_with (first | (go_at_call 87; refine (c_legal _ _).mono ?_; rintro e w1 ⟨rfl, ⟨m, rfl⟩⟩))
        go_ret
        exact ⟨by rw [HF.out]; rfl, HBB.out _ _⟩
    · have d2 : decide (R.p0 < 64) = false := decide_eq_false h2
      have HF := Lib.hid (show R.right = false by unfold Rec.right; rw [d2]; simp)
      go_enter Tryd.func71, Tryd.ntmps71
      go_wp2_with (first | (go_at_call 87; refine (c_legal _ _).mono ?_; rintro e w1 ⟨rfl, ⟨m, rfl⟩⟩))
      go_ret
      exact ⟨by rw [HF.out]; rfl, HBB.out _ _⟩
  · have d1 : decide (R.own < 64) = false := decide_eq_false h1
    have HF := Lib.hid (show R.right = false by unfold Rec.right; rw [d1]; simp)
    go_enter Tryd.func71, Tryd.ntmps71
    go_wp2_with (first | (go_at_call 87; refine (c_legal _ _).mono ?_; rintro e w1 ⟨rfl, ⟨m, rfl⟩⟩))
    go_ret
    exact ⟨by rw [HF.out]; rfl, HBB.out _ _⟩
/-- What the fields of a record of a kind are, read. -/
def fieldsG (R : Rec) (r : Option (List UInt8)) : Rec × Option (List UInt8) :=
  if R.kind = 1 then ({ R with frame := (g 8 r).1, own := (g 1 (g 8 r).2).1 }, (g 1 (g 8 r).2).2)
  else if R.kind = 2 then ({ R with frame := (g 8 r).1, p0 := (g 1 (g 8 r).2).1, p1 := (g 1 (g 1 (g 8 r).2).2).1 }, (g 1 (g 1 (g 8 r).2).2).2)
  else ({ R with seg := (g 8 r).1, first := (g 8 (g 8 r).2).1, epoch := (g 8 (g 8 (g 8 r).2).2).1, player := (g 1 (g 8 (g 8 (g 8 r).2).2).2).1 }, (g 1 (g 8 (g 8 (g 8 r).2).2).2).2)
theorem in_fieldsG (w0 w : World) (gr : Nat) (r : Option (List UInt8)) (hI : IsRd w0 w gr r) (hs : small r) (hB : Below w0.heap.size w0 w) (b : Nat) (R : Rec) (hk : R.kind = 1 ∨ R.kind = 2 ∨ R.kind = 3) (hb : w.heap[b]? = some (.cells R.cells 51 (0, 0))) (hbg : b ≠ gr) (hb0 : w0.heap.size ≤ b) :
    Calls Tryd.prog 70 #[.pointer (some ⟨b, 0, none⟩), .iface 135 (.agg #[.pointer (some ⟨gr, 0, none⟩)])] w fun e w' =>
      e = .returned (.bool true) ∧ IsRd w0 w' gr (fieldsG R r).2 ∧ w'.heap[b]? = some (.cells (fieldsG R r).1.cells 51 (0, 0)) ∧ Below w0.heap.size w0 w' ∧ Kept w w' (fun i => i = gr ∨ i = b) := by
  unfold fieldsG
  rcases hk with h | h | h
  · rw [if_pos h]
    exact in_fields1 w0 w gr r hI hs hB b R h hb hbg hb0
  · rw [if_neg (by omega), if_pos h]
    exact in_fields2 w0 w gr r hI hs hB b R h hb hbg hb0
  · rw [if_neg (by omega), if_neg (by omega)]
    exact in_fields3 w0 w gr r hI hs hB b R h hb hbg hb0
def takeG (l : List UInt8) : Rec × Int :=
  if l = [] then (Rec.zero, 10)
  else if (g 1 (some l)).1 = 1 ∨ (g 1 (some l)).1 = 2 ∨ (g 1 (some l)).1 = 3 then
    (if (st (fieldsG { Rec.zero with kind := (g 1 (some l)).1 } (g 1 (some l)).2).2).2 = 0 then
      (if (st (fieldsG { Rec.zero with kind := (g 1 (some l)).1 } (g 1 (some l)).2).2).1 = bs [] ∧ (fieldsG { Rec.zero with kind := (g 1 (some l)).1 } (g 1 (some l)).2).1.right = true then ((fieldsG { Rec.zero with kind := (g 1 (some l)).1 } (g 1 (some l)).2).1, 0) else (Rec.zero, 4))
     else (Rec.zero, (st (fieldsG { Rec.zero with kind := (g 1 (some l)).1 } (g 1 (some l)).2).2).2))
  else (Rec.zero, 4)
theorem g1_range (r : Option (List UInt8)) : 0 ≤ (g 1 r).1 ∧ (g 1 r).1 < 256 := by
  cases r with
  | none => simp [g]
  | some l =>
    by_cases h : 1 ≤ l.length
    · rw [g_yes 1 l h]
      have := numN_lt (l.take 1)
      rw [List.length_take, Nat.min_eq_left h] at this
      exact ⟨by simp only; omega, by simp only; omega⟩
    · rw [g_no 1 l h]; simp
set_option maxHeartbeats 1000000 in
set_option maxRecDepth 100000 in
theorem take_calls (l : List UInt8) (hl : l.length ≤ 100000) (w : World) : Calls Tryd.prog 50 #[.string (bs l)] w fun e w' => e = .returned (.tuple #[(takeG l).1.val, .int .i64 (takeG l).2]) ∧ Below w.heap.size w w' := by
  by_cases h0 : l = []
  · have h0b : (bs l).toList.isEmpty = true := by rw [bs_toList, h0]; rfl
    have HT := Lib.hid (show takeG l = (Rec.zero, 10) from if_pos h0)
    clear h0
    go_enter Tryd.func50, Tryd.ntmps50
    go_wp2_with fail
    rw [HT.out]
    exact bodyPost_ret (v := .tuple #[Rec.zero.val, .int .i64 10]) (by simp [results, Tryd.results50, go_sem, Rec.zero, Rec.val, Rec.cells]) rfl ⟨rfl, (Below.refl _ _).alloc (Nat.le_refl _) _⟩
  · have h0b : (bs l).toList.isEmpty = false := by rw [bs_toList]; cases l; exact absurd rfl h0; rfl
    have HN := Lib.hid (fun W => c_new l W)
    have HTK := Lib.hid (show takeG l = _ from if_neg h0)
    have hkr := g1_range (some l)
    have hs1 : small (g 1 (some l)).2 := g_small 1 (some l) (fun x hx => by cases hx; exact hl)
    clear h0
    go_enter Tryd.func50, Tryd.ntmps50
    go_wp2_with fail
    refine (HN.out _).mono ?_
    rintro e w1 ⟨gr, rfl, hI1, hB1⟩
    have HI1 := Lib.hid (rd_base (w0 := w) hI1 (by simp))
    have HB1 := Lib.hid (((Below.refl w.heap.size w).alloc (Nat.le_refl _) _).trans (hB1.mono (by simp)))
    have HZ1 := Lib.hid (show w1.heap[w.heap.size]? = some (.cells Rec.zero.cells 51 (0, 0)) from (hB1.block _ (by simp)).trans (heap_alloc_new w _))
    have hw1 : w.heap.size + 1 ≤ w1.heap.size := by simpa using hB1.size
    have hgr1 : gr < w1.heap.size := rd_lt HI1.out
    have hgr0 : w.heap.size + 1 ≤ gr := by have := rd_ge hI1; simpa using this
    clear hI1 hB1
    go_wp2_with fail
    refine (in_byte w _ gr (some l) (rd_kept HI1.out (((Kept.refl w1 (fun _ => False)).alloc _).alloc _) (fun h => h)) (fun x hx => by cases hx; exact hl) ((HB1.out.alloc HB1.out.size _).alloc (by simp; omega) _) (w1.heap.size + 1) 0 #[.int .u8 0] 5 (by exact blk_alloc2 _ _ _) (by decide) (by omega) (by omega)).mono ?_
    rintro e w2 ⟨rfl, hI2, hb2, hB2, hK2⟩
    have HZ2 := Lib.hid (blk_kept (blk_alloc (blk_alloc HZ1.out (.cells #[.pointer (some ⟨gr, 0, none⟩)] 135)) (.cells #[.int .u8 0] 5)) hK2 (by omega))
    have HP2 := Lib.hid (blk_kept (blk_alloc (heap_alloc_new w1 (.cells #[.pointer (some ⟨gr, 0, none⟩)] 135)) (.cells #[.int .u8 0] 5)) hK2 (by omega))
    have hw2 : w1.heap.size + 2 ≤ w2.heap.size := by have := hK2.1; simpa using this
    have cp : w2.cell? ⟨w1.heap.size, 0, none⟩ = some (.pointer (some ⟨gr, 0, none⟩)) := (blk_cell HP2.out 0).trans rfl
    have ck : w2.cell? ⟨w1.heap.size + 1, 0, none⟩ = some (.int .u8 (g 1 (some l)).1) := (blk_cell hb2 0).trans rfl
    have HI2 := Lib.hid hI2
    have HB2 := Lib.hid hB2
    clear hI2 hb2 hB2 hK2
    have HTK2 := HTK.out
    clear HTK
    generalize (g 1 (some l)).1 = kb at *
    generalize (g 1 (some l)).2 = r1 at *
    have HTK := Lib.hid HTK2
    clear HTK2
    have hlt12 : w1.heap.size < w2.heap.size := by omega
    have hlt12' : w1.heap.size + 1 < w2.heap.size := by omega
    by_cases hk : kb = 1 ∨ kb = 2 ∨ kb = 3
    · have HK := Lib.hid hk
      clear hk
      go_wp2_with fail
      refine (in_fieldsG w _ gr r1 (rd_kept HI2.out ((Kept.refl w2 (fun _ => False)).alloc _) (fun h => h)) hs1 (HB2.out.alloc HB2.out.size _) w2.heap.size ({ Rec.zero with kind := kb } : Rec) HK.out (by exact heap_alloc_new w2 _) (by omega) (by omega)).mono ?_
      rintro e w3 ⟨rfl, hI3, hb3, hB3, hK3⟩
      have HZ3 := Lib.hid (blk_kept (blk_alloc HZ2.out (.cells ({ Rec.zero with kind := kb } : Rec).cells 51)) hK3 (by omega))
      have HP3 := Lib.hid (blk_kept (blk_alloc HP2.out (.cells ({ Rec.zero with kind := kb } : Rec).cells 51)) hK3 (by omega))
      have hw3 : w2.heap.size + 1 ≤ w3.heap.size := by have := hK3.1; simpa using this
      have cp3 : w3.cell? ⟨w1.heap.size, 0, none⟩ = some (.pointer (some ⟨gr, 0, none⟩)) := (blk_cell HP3.out 0).trans rfl
      have HTK2 := HTK.out
      rw [if_pos HK.out] at HTK2
      clear HTK
      generalize hF : fieldsG ({ Rec.zero with kind := kb } : Rec) r1 = FG at *
      obtain ⟨R, r2⟩ := FG
      have HTK := Lib.hid HTK2
      have HI3 := Lib.hid hI3
      have HBk3 := Lib.hid hb3
      have HB3 := Lib.hid hB3
      clear HTK2 hI3 hb3 hB3 hK3 hF
      go_wp2_with fail
      refine (c_err w w3 gr r2 HI3.out HB3.out).mono ?_
      rintro e w4 ⟨rfl, hI4, hB4, hK4⟩
      have HZ4 := Lib.hid (blk_kept HZ3.out hK4 (by omega))
      have HP4 := Lib.hid (blk_kept HP3.out hK4 (by omega))
      have HBk4 := Lib.hid (blk_kept HBk3.out hK4 (by omega))
      have cp4 : w4.cell? ⟨w1.heap.size, 0, none⟩ = some (.pointer (some ⟨gr, 0, none⟩)) := (blk_cell HP4.out 0).trans rfl
      have HI4 := Lib.hid hI4
      have HB4 := Lib.hid hB4
      clear hI4 hB4 hK4
      by_cases he : (st r2).2 = 0
      · have heb : ((st r2).2 != 0) = false := by simp [he]
        have HTK2 := HTK.out
        rw [if_pos he] at HTK2
        have HE := Lib.hid he
        clear HTK he
        go_wp2_with fail
        refine (c_rest w w4 gr r2 HI4.out HB4.out).mono ?_
        rintro e w5 ⟨rfl, hI5, hB5, hK5⟩
        have HZ5 := Lib.hid (blk_kept HZ4.out hK5 (by omega))
        have HBk5 := Lib.hid (blk_kept HBk4.out hK5 (by omega))
        have HB5 := Lib.hid hB5
        clear hI5 hB5 hK5
        by_cases hr : (st r2).1 = bs []
        · have hrb : (st r2).1.toList.isEmpty = true := by rw [hr, bs_toList]; rfl
          have hrc : (st r2).1.toList = [] := by rw [hr, bs_toList]
          cases hg : R.right
          · rw [if_neg (fun h => by rw [hg] at h; cases h.2)] at HTK2
            have HTK3 := Lib.hid HTK2
            have HR0 := Lib.hid (right_calls w5 R)
            rw [hg] at HR0
            clear HTK2 hr hg
            go_wp2_with (first | ((with_reducible refine gate_load (t := 51) (p := 6) rfl ?_); refine gate_guard (by rfl) ?_; refine load_rec rfl 51 (.tmp 6) rfl _ Tryd.underlying51 rfl info51 w2.heap.size 51 R rfl HBk5.out ?_))
            refine (HR0.out).mono ?_
            rintro e w6 ⟨rfl, hb6⟩
            have HZ6 := Lib.hid (blk_kept HZ5.out (Kept.of_below hb6 (fun _ => False)) (fun h => h))
            have HB6 := Lib.hid (HB5.out.trans (hb6.mono HB5.out.size))
            clear hb6
            go_wp2_with (first | ((with_reducible refine gate_store (t := 51) (p := 2) rfl ?_); refine store_rec rfl 51 (.tmp 2) (.tmp 40) rfl info51 w.heap.size 51 Rec.zero Rec.zero rfl rfl HZ6.out ?_; intro w7 hz7 hk7 hb7; have HZ7 := Lib.hid hz7; have HB7 := Lib.hid (hb7 w.heap.size w (Nat.le_refl _) HB6.out); clear hz7 hk7 hb7))
            rw [HTK3.out]
            exact bodyPost_ret (v := .tuple #[Rec.zero.val, .int .i64 4]) (take_res w.heap.size Rec.zero rfl HZ7.out) rfl ⟨rfl, HB7.out⟩
          · rw [if_pos ⟨hr, hg⟩] at HTK2
            have HTK3 := Lib.hid HTK2
            have HR0 := Lib.hid (right_calls w5 R)
            rw [hg] at HR0
            clear HTK2 hr hg
            go_wp2_with (first | ((with_reducible refine gate_load (t := 51) (p := 6) rfl ?_); refine gate_guard (by rfl) ?_; refine load_rec rfl 51 (.tmp 6) rfl _ Tryd.underlying51 rfl info51 w2.heap.size 51 R rfl HBk5.out ?_))
            refine (HR0.out).mono ?_
            rintro e w6 ⟨rfl, hb6⟩
            have HZ6 := Lib.hid (blk_kept HZ5.out (Kept.of_below hb6 (fun _ => False)) (fun h => h))
            have HBk6 := Lib.hid (blk_kept HBk5.out (Kept.of_below hb6 (fun _ => False)) (fun h => h))
            have HB6 := Lib.hid (HB5.out.trans (hb6.mono HB5.out.size))
            clear hb6
            go_wp2_with (first | ((with_reducible refine gate_load (t := 51) (p := 6) rfl ?_); refine load_rec rfl 51 (.tmp 6) rfl _ Tryd.underlying51 rfl info51 w2.heap.size 51 R rfl HBk6.out ?_) | ((with_reducible refine gate_store (t := 51) (p := 2) rfl ?_); refine store_rec rfl 51 (.tmp 2) (.tmp 41) rfl info51 w.heap.size 51 R Rec.zero rfl rfl HZ6.out ?_; intro w7 hz7 hk7 hb7; have HZ7 := Lib.hid hz7; have HB7 := Lib.hid (hb7 w.heap.size w (Nat.le_refl _) HB6.out); clear hz7 hk7 hb7))
            rw [HTK3.out]
            exact bodyPost_ret (v := .tuple #[R.val, .int .i64 0]) (take_res w.heap.size R rfl HZ7.out) rfl ⟨rfl, HB7.out⟩
        · rw [if_neg (fun h => hr h.1)] at HTK2
          have HTK3 := Lib.hid HTK2
          have hrb : (st r2).1.toList.isEmpty = false := by
            cases hl : (st r2).1.toList with
            | nil => exact absurd ((Lib.bytes_beq_iff _ _).1 (show ((st r2).1.toList == (bs []).toList) = true by rw [hl, bs_toList]; rfl)) hr
            | cons x y => rfl
          have hrc : (st r2).1.toList ≠ [] := by intro h; rw [h] at hrb; cases hrb
          clear HTK2 hr
          go_wp2_with (first | ((with_reducible refine gate_store (t := 51) (p := 2) rfl ?_); refine store_rec rfl 51 (.tmp 2) (.tmp 40) rfl info51 w.heap.size 51 Rec.zero Rec.zero rfl rfl HZ5.out ?_; intro w7 hz7 hk7 hb7; have HZ7 := Lib.hid hz7; have HB7 := Lib.hid (hb7 w.heap.size w (Nat.le_refl _) HB5.out); clear hz7 hk7 hb7))
          rw [HTK3.out]
          exact bodyPost_ret (v := .tuple #[Rec.zero.val, .int .i64 4]) (take_res w.heap.size Rec.zero rfl HZ7.out) rfl ⟨rfl, HB7.out⟩
      · have heb : ((st r2).2 != 0) = true := by simp [he]
        have HTK2 := HTK.out
        rw [if_neg he] at HTK2
        have HTK3 := Lib.hid HTK2
        clear HTK HTK2 he
        go_wp2_with (first | ((with_reducible refine gate_store (t := 51) (p := 2) rfl ?_); refine store_rec rfl 51 (.tmp 2) (.tmp 29) rfl info51 w.heap.size 51 Rec.zero Rec.zero rfl rfl HZ4.out ?_; intro w5 hz5 hk5 hb5; have HZ5 := Lib.hid hz5; have HB5 := Lib.hid (hb5 w.heap.size w (Nat.le_refl _) HB4.out); clear hz5 hk5 hb5))
        rw [HTK3.out]
        exact bodyPost_ret (v := .tuple #[Rec.zero.val, .int .i64 (st r2).2]) (take_res w.heap.size Rec.zero rfl HZ5.out) rfl ⟨rfl, HB5.out⟩
    · have HTK9 := HTK.out
      rw [if_neg hk] at HTK9
      have HTK := Lib.hid HTK9
      clear HTK9
      go_wp2_with fail
      refine (fields_none (w2.alloc _) w2.heap.size ({ Rec.zero with kind := kb } : Rec) ⟨fun h => hk (Or.inl h), fun h => hk (Or.inr (Or.inl h)), fun h => hk (Or.inr (Or.inr h))⟩ (by exact heap_alloc_new w2 _) _).mono ?_
      rintro e w3 ⟨rfl, hw3⟩
      have HZ3 := Lib.hid (blk_alloc HZ2.out (.cells ({ Rec.zero with kind := kb } : Rec).cells 51))
      have HB3 := Lib.hid (HB2.out.alloc HB2.out.size (.cells ({ Rec.zero with kind := kb } : Rec).cells 51))
      rw [show (w2.alloc (.cells #[.int .i64 kb, .int .u64 0, .int .u8 0, .int .u8 0, .int .u8 0, .int .u64 0, .int .u64 0, .int .u64 0, .int .u8 0] 51)) = w2.alloc (.cells ({ Rec.zero with kind := kb } : Rec).cells 51) from rfl] at hw3
      rw [hw3] at HZ3 HB3
      have HTK3 := Lib.hid HTK.out
      clear hw3 HTK
      go_wp2_with (first | ((with_reducible refine gate_store (t := 51) (p := 2) rfl ?_); refine store_rec rfl 51 (.tmp 2) (.tmp 23) rfl info51 w.heap.size 51 Rec.zero Rec.zero rfl rfl HZ3.out ?_; intro w7 hz7 hk7 hb7; have HZ7 := Lib.hid hz7; have HB7 := Lib.hid (hb7 w.heap.size w (Nat.le_refl _) HB3.out); clear hz7 hk7 hb7))
      rw [HTK3.out]
      exact bodyPost_ret (v := .tuple #[Rec.zero.val, .int .i64 4]) (take_res w.heap.size Rec.zero rfl HZ7.out) rfl ⟨rfl, HB7.out⟩
end Go.Proofs.YtnhjhaphfdlkfaaDoor.Sg
/- Records compared. -/
set_option linter.unusedVariables false
namespace Go.Proofs.YtnhjhaphfdlkfaaDoor.Sg
open Go.RowKit Go.Proofs.YtnhjhaphfdlkfaaDoor.HF Go.Proofs.YtnhjhaphfdlkfaaDoor.SB Go.Proofs.YtnhjhaphfdlkfaaDoorW.PrintWords Go.Proofs.YtnhjhaphfdlkfaaDoorW.PrintLast Go.Proofs.YtnhjhaphfdlkfaaDoorW.PrintMore
def recEqB (A B : Rec) : Bool := A.kind == B.kind && (A.frame == B.frame && (A.own == B.own && ((A.p0 == B.p0 && A.p1 == B.p1) && (A.seg == B.seg && (A.first == B.first && (A.epoch == B.epoch && A.player == B.player))))))
theorem recEqB_is (A B : Rec) : recEqB A B = decide (A = B) := by
  rw [Bool.eq_iff_iff, decide_eq_true_iff]
  unfold recEqB
  obtain ⟨a1, a2, a3, a4, a5, a6, a7, a8, a9⟩ := A
  obtain ⟨b1, b2, b3, b4, b5, b6, b7, b8, b9⟩ := B
  simp only [Bool.and_eq_true, beq_iff_eq, Rec.mk.injEq]
  constructor
  · rintro ⟨h1, h2, h3, ⟨h4, h5⟩, h6, h7, h8, h9⟩; exact ⟨h1, h2, h3, h4, h5, h6, h7, h8, h9⟩
  · rintro ⟨h1, h2, h3, h4, h5, h6, h7, h8, h9⟩; exact ⟨h1, h2, h3, ⟨h4, h5⟩, h6, h7, h8, h9⟩
set_option maxHeartbeats 4000000 in
set_option linter.unusedSimpArgs false in
theorem eqA49 (d : Nat) (w : World) (a b x y : Int) : (Op.equalIn (d + 2) 49 (.agg #[.int .u8 a, .int .u8 b]) (.agg #[.int .u8 x, .int .u8 y])).run Tryd.prog w = .ok (a == x && b == y) w := by
  have ha : ∀ w, (isAgg 47).run Tryd.prog w = .ok false w := fun _ => by kernel_rfl
  have hu := fun w => run_underlying (P := Tryd.prog) Tryd.underlying47 w
  have hp : ∀ (v : Array Value) (i : Nat) (u : Value), v[i]? = some u → (part 47 v i).run Tryd.prog w = .ok u w := fun v i u h => by
    simp only [part, Sem.run_bind, ha, Result.andThen_ok]
    simp [h]
  have he : ∀ (p q : Int), (Op.equalIn (d + 1) 47 (.int .u8 p) (.int .u8 q)).run Tryd.prog w = .ok (p == q) w := fun p q => run_equalIn_int w d 47 .u8 .u8 p q Tryd.underlying47
  have hs : (sizeOf 47).run Tryd.prog w = .ok 1 w := by kernel_rfl
  unfold Op.equalIn
  simp only [Sem.run_bind, run_underlying (P := Tryd.prog) Tryd.underlying49, Result.andThen_ok, hs]
  have p0 := hp #[.int .u8 a, .int .u8 b] 0 (.int .u8 a) rfl
  have p1 := hp #[.int .u8 a, .int .u8 b] 1 (.int .u8 b) rfl
  have q0 := hp #[.int .u8 x, .int .u8 y] 0 (.int .u8 x) rfl
  have q1 := hp #[.int .u8 x, .int .u8 y] 1 (.int .u8 y) rfl
  have hr : (forIn [:2] ((none, ()) : Option Bool × Unit) fun i __s => do
            let v ← part 47 #[Value.int IntKind.u8 a, Value.int IntKind.u8 b] (i * 1)
            let u ← part 47 #[Value.int IntKind.u8 x, Value.int IntKind.u8 y] (i * 1)
            let r ← Op.equalIn (d + 1) 47 v u
            if (!r) = true then pure (ForInStep.done (some false, ())) else (pure (ForInStep.yield (none, ())) : Sem _)).run Tryd.prog w = .ok (if (a == x && b == y) = true then (none, ()) else (some false, ())) w := by
    rw [Std.Legacy.Range.forIn_eq_forIn_range']
    rw [show List.range' ([:2] : Std.Legacy.Range).start ([:2] : Std.Legacy.Range).size ([:2] : Std.Legacy.Range).step = [0, 1] from rfl]
    simp only [List.forIn_cons, List.forIn_nil, Sem.run_bind, p0, p1, q0, q1, he, Result.andThen_ok, Nat.zero_mul, Nat.one_mul]
    cases h1 : a == x <;> cases h2 : b == y <;> first | (simp [p0, p1, q0, q1, he]; done) | (simp [p0, p1, q0, q1, he]; simpa using h2)
  rw [hr]
  cases a == x <;> cases b == y <;> rfl
set_option maxHeartbeats 1000000 in
theorem eqA51 (d : Nat) (w : World) (A B : Rec) : (Op.equalIn (d + 3) 51 A.val B.val).run Tryd.prog w = .ok (decide (A = B)) w := by
  rw [← recEqB_is]
  unfold Rec.val recEqB Rec.cells
  refine eqA_of Tryd.underlying51 (by kernel_rfl) ?_
  refine eqf_cons (by rfl) (by go_simp; rfl) (by go_simp; rfl) (by go_simp) ?_
  refine eqf_cons (by rfl) (by go_simp; rfl) (by go_simp; rfl) (by go_simp) ?_
  refine eqf_cons (by rfl) (by go_simp; rfl) (by go_simp; rfl) (by go_simp) ?_
  refine eqf_cons (by rfl) (a := .agg #[.int .u8 A.p0, .int .u8 A.p1]) (b := .agg #[.int .u8 B.p0, .int .u8 B.p1]) (by kernel_rfl) (by kernel_rfl) (eqA49 d w _ _ _ _) ?_
  refine eqf_cons (by rfl) (by go_simp; rfl) (by go_simp; rfl) (by go_simp) ?_
  refine eqf_cons (by rfl) (by go_simp; rfl) (by go_simp; rfl) (by go_simp) ?_
  refine eqf_cons (by rfl) (by go_simp; rfl) (by go_simp; rfl) (by go_simp) ?_
  exact eqf_last (by rfl) (by go_simp; rfl) (by go_simp; rfl) (by go_simp)
theorem guard51 (op : BinOp) (x y : Operand) (A B : Rec) (w : World) : (eqGuard op 51 x y A.val B.val).run Tryd.prog w = .ok () w := run_eqGuard_agg w op 51 x y _ _ (by kernel_rfl)
theorem eql51 (A B : Rec) (w : World) : (binOp .eql 51 A.val B.val).run Tryd.prog w = .ok (.bool (decide (A = B))) w := by
  have h := eqA51 9997 w A B
  unfold Rec.val at h ⊢
  rw [run_eql_struct, h]
  rfl
theorem neq51 (A B : Rec) (w : World) : (binOp .neq 51 A.val B.val).run Tryd.prog w = .ok (.bool (!decide (A = B))) w := by
  have h := eqA51 9997 w A B
  unfold Rec.val at h ⊢
  rw [run_neq_struct, h]
  rfl
end Go.Proofs.YtnhjhaphfdlkfaaDoor.Sg
/- record.Put, of records that may be. -/
set_option linter.unusedVariables false
namespace Go.Proofs.YtnhjhaphfdlkfaaDoor.Sg
open Go.RowKit Go.Proofs.YtnhjhaphfdlkfaaDoor.HF Go.Proofs.YtnhjhaphfdlkfaaDoor.SB Go.Proofs.YtnhjhaphfdlkfaaDoorW.PrintWords Go.Proofs.YtnhjhaphfdlkfaaDoorW.PrintLast Go.Proofs.YtnhjhaphfdlkfaaDoorW.PrintMore
/-- A record that may be: its kind's fields alone are not 0. -/
def Rec.may (R : Rec) : Prop :=
  (R.kind = 1 ∧ R = { Rec.zero with kind := 1, frame := R.frame, own := R.own } ∧ (0 ≤ R.frame ∧ R.frame < 18446744073709551616) ∧ 0 ≤ R.own ∧ R.own < 64) ∨
  (R.kind = 2 ∧ R = { Rec.zero with kind := 2, frame := R.frame, p0 := R.p0, p1 := R.p1 } ∧ (0 ≤ R.frame ∧ R.frame < 18446744073709551616) ∧ (0 ≤ R.p0 ∧ R.p0 < 64) ∧ 0 ≤ R.p1 ∧ R.p1 < 64) ∨
  (R.kind = 3 ∧ R = { Rec.zero with kind := 3, seg := R.seg, first := R.first, epoch := R.epoch, player := R.player } ∧ (0 ≤ R.seg ∧ R.seg < 18446744073709551616) ∧ (0 ≤ R.first ∧ R.first < 18446744073709551616) ∧ (0 ≤ R.epoch ∧ R.epoch < 18446744073709551616) ∧ 0 ≤ R.player ∧ R.player ≤ 1)
/-- Its text. -/
def Rec.bytes (R : Rec) : List Int :=
  Wr.leBytes R.kind 1 ++ (if R.kind = 1 then Wr.leBytes R.frame 8 ++ Wr.leBytes R.own 1 else if R.kind = 2 then Wr.leBytes R.frame 8 ++ Wr.leBytes R.p0 1 ++ Wr.leBytes R.p1 1 else Wr.leBytes R.seg 8 ++ Wr.leBytes R.first 8 ++ Wr.leBytes R.epoch 8 ++ Wr.leBytes R.player 1)
def Rec.text (R : Rec) : List UInt8 := enc R.bytes
theorem may_right {R : Rec} (h : R.may) : R.right = true := by
  unfold Rec.right
  rcases h with ⟨_, e, _, h1, h2⟩ | ⟨_, e, _, ⟨h1, h2⟩, h3, h4⟩ | ⟨_, e, _, _, _, h1, h2⟩
  · rw [e]; simp [Rec.zero]; exact h2
  · rw [e]; simp [Rec.zero]; exact ⟨h2, h4⟩
  · rw [e]; simp [Rec.zero]; exact h2
/-- Put, then taken: the same. -/
theorem take_text {R : Rec} (h : R.may) : takeG R.text = (R, 0) := by
  have hr := may_right h
  have hne : R.text ≠ [] := by
    unfold Rec.text Rec.bytes
    rw [enc_append]
    intro e
    have := congrArg List.length e
    rw [List.length_append, enc_len, Wr.leBytes_len] at this
    simp at this
  unfold takeG
  rw [if_neg hne]
  rcases h with ⟨hk, e, h1, h2, h3⟩ | ⟨hk, e, h1, ⟨h2, h3⟩, h4, h5⟩ | ⟨hk, e, h1, h2, h3, h4, h5⟩
  · have ht : R.text = enc (Wr.leBytes 1 1) ++ (enc (Wr.leBytes R.frame 8) ++ (enc (Wr.leBytes R.own 1) ++ [])) := by
      unfold Rec.text Rec.bytes
      rw [hk, if_pos rfl, enc_append, enc_append, List.append_nil]
    rw [ht, g_enc1 1 (by omega) (by omega)]
    dsimp only
    rw [if_pos (Or.inl rfl)]
    have hf : fieldsG { Rec.zero with kind := 1 } (some (enc (Wr.leBytes R.frame 8) ++ (enc (Wr.leBytes R.own 1) ++ []))) = (R, some []) := by
      unfold fieldsG
      rw [if_pos rfl, g_enc8 R.frame h1]
      dsimp only
      rw [g_enc1 R.own h2 (by omega)]
      dsimp only
      rw [← e]
    rw [hf]
    rw [if_pos (show (st (some ([] : List UInt8))).2 = 0 from rfl), if_pos ⟨rfl, hr⟩]
  · have ht : R.text = enc (Wr.leBytes 2 1) ++ (enc (Wr.leBytes R.frame 8) ++ (enc (Wr.leBytes R.p0 1) ++ (enc (Wr.leBytes R.p1 1) ++ []))) := by
      unfold Rec.text Rec.bytes
      rw [hk, if_neg (by omega), if_pos rfl, enc_append, enc_append, enc_append, List.append_nil, List.append_assoc]
    rw [ht, g_enc1 2 (by omega) (by omega)]
    dsimp only
    rw [if_pos (Or.inr (Or.inl rfl))]
    have hf : fieldsG { Rec.zero with kind := 2 } (some (enc (Wr.leBytes R.frame 8) ++ (enc (Wr.leBytes R.p0 1) ++ (enc (Wr.leBytes R.p1 1) ++ [])))) = (R, some []) := by
      unfold fieldsG
      rw [if_neg (by show ¬ (2 : Int) = 1; omega), if_pos rfl, g_enc8 R.frame h1]
      dsimp only
      rw [g_enc1 R.p0 h2 (by omega)]
      dsimp only
      rw [g_enc1 R.p1 h4 (by omega)]
      dsimp only
      rw [← e]
    rw [hf]
    rw [if_pos (show (st (some ([] : List UInt8))).2 = 0 from rfl), if_pos ⟨rfl, hr⟩]
  · have ht : R.text = enc (Wr.leBytes 3 1) ++ (enc (Wr.leBytes R.seg 8) ++ (enc (Wr.leBytes R.first 8) ++ (enc (Wr.leBytes R.epoch 8) ++ (enc (Wr.leBytes R.player 1) ++ [])))) := by
      unfold Rec.text Rec.bytes
      rw [hk, if_neg (by omega), if_neg (by omega), enc_append, enc_append, enc_append, enc_append, List.append_nil, List.append_assoc, List.append_assoc]
    rw [ht, g_enc1 3 (by omega) (by omega)]
    dsimp only
    rw [if_pos (Or.inr (Or.inr rfl))]
    have hf : fieldsG { Rec.zero with kind := 3 } (some (enc (Wr.leBytes R.seg 8) ++ (enc (Wr.leBytes R.first 8) ++ (enc (Wr.leBytes R.epoch 8) ++ (enc (Wr.leBytes R.player 1) ++ []))))) = (R, some []) := by
      unfold fieldsG
      rw [if_neg (by show ¬ (3 : Int) = 1; omega), if_neg (by show ¬ (3 : Int) = 2; omega), g_enc8 R.seg h1]
      dsimp only
      rw [g_enc8 R.first h2]
      dsimp only
      rw [g_enc8 R.epoch h3]
      dsimp only
      rw [g_enc1 R.player h4 (by omega)]
      dsimp only
      rw [← e]
    rw [hf]
    rw [if_pos (show (st (some ([] : List UInt8))).2 = 0 from rfl), if_pos ⟨rfl, hr⟩]
theorem text_len {R : Rec} : R.text.length ≤ 26 := by
  unfold Rec.text Rec.bytes
  rw [enc_len, List.length_append, Wr.leBytes_len]
  split
  · simp [Wr.leBytes_len]
  · split <;> simp [Wr.leBytes_len]
theorem nil_owns (w : World) (base : Nat) : w.ownsRow base 5 1 (.slice none 0 0) ([] : List Int).length (nums .u8 []) := ⟨rfl, Or.inl ⟨rfl, rfl⟩⟩
/-- fields, over a writer, of a record that may be. -/
theorem out_fields (w : World) (base go : Nat) (v : Value) (xs : List Int) (hW : Wq.IsW w base go v xs) (hl : xs.length ≤ 100) (b : Nat) (R : Rec) (hR : R.may) (hb : w.heap[b]? = some (.cells R.cells 51 (0, 0))) (hbg : b ≠ go) (hbv : v.ownBlock ≠ some b) :
    Calls Tryd.prog 70 #[.pointer (some ⟨b, 0, none⟩), .iface 142 (.pointer (some ⟨go, 0, none⟩))] w fun e w' => e = .returned (.bool true) ∧ Wq.Wrote w w' base go v (xs ++ (if R.kind = 1 then Wr.leBytes R.frame 8 ++ Wr.leBytes R.own 1 else if R.kind = 2 then Wr.leBytes R.frame 8 ++ Wr.leBytes R.p0 1 ++ Wr.leBytes R.p1 1 else Wr.leBytes R.seg 8 ++ Wr.leBytes R.first 8 ++ Wr.leBytes R.epoch 8 ++ Wr.leBytes R.player 1)) := by
  rcases hR with ⟨hk, e, h1, h2, h3⟩ | ⟨hk, e, h1, ⟨h2, h3⟩, h4, h5⟩ | ⟨hk, e, h1, h2, h3, h4, h5⟩
  · rw [if_pos hk]
    have := out_fields1 w base go v xs hW hl b R hk hb hbg hbv ⟨h1.1, h1.2, h2, by omega⟩
    simpa only [List.append_assoc] using this
  · rw [if_neg (by omega), if_pos hk]
    have := out_fields2 w base go v xs hW hl b R hk hb hbg hbv ⟨h1.1, h1.2, h2, by omega, h4, by omega⟩
    simpa only [List.append_assoc] using this
  · rw [if_neg (by omega), if_neg (by omega)]
    have := out_fields3 w base go v xs hW hl b R hk hb hbg hbv ⟨h1.1, h1.2, h2.1, h2.2, h3.1, h3.2, h4, by omega⟩
    simpa only [List.append_assoc] using this
theorem isw_below {w w1 : World} {base go : Nat} {v : Value} {xs : List Int} (h : Wq.IsW w base go v xs) (hb : Below w.heap.size w w1) : Wq.IsW w1 base go v xs :=
  ⟨(hb.block go (blk_lt h.1)).trans h.1, pw_own_below h.2.1 hb, h.2.2⟩
set_option maxHeartbeats 1000000 in
set_option maxRecDepth 100000 in
theorem put_calls (R : Rec) (hR : R.may) (w : World) : Calls Tryd.prog 55 #[R.val] w fun e w' => e = .returned (.tuple #[.string (bs R.text), .int .i64 0]) ∧ Below w.heap.size w w' := by
  have hkr : 1 ≤ R.kind ∧ R.kind ≤ 3 := by rcases hR with h | h | h <;> omega
  have HT := Lib.hid (take_text hR)
  have HTL := Lib.hid (text_len (R := R))
  have HRt := Lib.hid (may_right hR)
  have HR := Lib.hid hR
  have hk0 : 0 ≤ R.kind := by omega
  have hk256 : R.kind < 256 := by omega
  clear hR
  unfold Rec.val
  rw [show R.cells = #[.int .i64 R.kind, .int .u64 R.frame, .int .u8 R.own, .int .u8 R.p0, .int .u8 R.p1, .int .u64 R.seg, .int .u64 R.first, .int .u64 R.epoch, .int .u8 R.player] from rfl]
  have HX := Lib.hid (show ∀ W3, W3 = ((w.alloc (.cells R.cells 51)).alloc (.cells #[.slice none 0 0] 144)).alloc (.cells #[.int .u8 R.kind] 5) →
      W3.heap[w.heap.size]? = some (.cells R.cells 51 (0, 0)) ∧ Wq.IsW W3 w.heap.size (w.heap.size + 1) (.slice none 0 0) [] ∧ W3.heap[w.heap.size + 1 + 1]? = some (.cells #[.int .u8 R.kind] 5 (0, 0)) ∧ Below w.heap.size w W3 ∧ W3.heap.size = w.heap.size + 3 by
    rintro W3 rfl
    refine ⟨blk_alloc (blk_alloc (heap_alloc_new w _) _) _, ⟨blk_alloc (blk_alloc2 w _ _) _, nil_owns _ _, by omega⟩, ?_, ((((Below.refl _ _).alloc (Nat.le_refl _) _).alloc (by simp) _).alloc (by simp; omega) _), by simp⟩
    have := heap_alloc_new ((w.alloc (.cells R.cells 51)).alloc (.cells #[.slice none 0 0] 144)) (.cells #[.int .u8 R.kind] 5)
    simpa using this)
  go_enter Tryd.func55, Tryd.ntmps55
  go_wp2_with fail
  rw [show #[Value.int .i64 R.kind, .int .u64 R.frame, .int .u8 R.own, .int .u8 R.p0, .int .u8 R.p1, .int .u64 R.seg, .int .u64 R.first, .int .u64 R.epoch, .int .u8 R.player] = R.cells from rfl]
  generalize hW3 : ((w.alloc (.cells R.cells 51)).alloc (.cells #[.slice none 0 0] 144)).alloc (.cells #[.int .u8 R.kind] 5) = W3
  obtain ⟨a1, a2, a3, a4, a5⟩ := HX.out W3 hW3.symm
  have HR3 := Lib.hid a1
  have HB3 := Lib.hid a4
  have hsz := a5
  clear HX hW3
  refine (out_byte W3 w.heap.size (w.heap.size + 1) (.slice none 0 0) [] a2 (by simp) (w.heap.size + 1 + 1) 0 R.kind ((blk_cell a3 0).trans rfl) hk0 hk256).mono ?_
  rintro e w4 ⟨rfl, hw4⟩
  have HR4 := Lib.hid (wrote_blk hw4 HR3.out (by omega) (by simp [Value.ownBlock]))
  have hk4 := wrote_blk hw4 a3 (by omega) (by simp [Value.ownBlock])
  obtain ⟨v4, b1, b2, b3, b4⟩ := hw4
  have HW4 := Lib.hid b1
  have HB4 := Lib.hid (HB3.out.trans b3)
  have HV4 := Lib.hid (show v4.ownBlock ≠ some w.heap.size by
    intro e
    rcases b4 with h | ⟨b', h, hb'⟩
    · rw [h] at e; simp [Value.ownBlock] at e
    · rw [h] at e; cases e; omega)
  have ck4 : w4.cell? ⟨w.heap.size + 1 + 1, 0, none⟩ = some (.int .u8 R.kind) := (blk_cell hk4 0).trans rfl
  have cr4 : w4.cell? ⟨w.heap.size, 0, none⟩ = some (.int .i64 R.kind) := (blk_cell HR4.out 0).trans rfl
  clear a1 a2 a3 a4 a5 b1 b2 b3 b4 hk4
  go_wp2_with fail
  refine (out_fields w4 w.heap.size (w.heap.size + 1) v4 ([] ++ Wr.leBytes R.kind 1) HW4.out (by rw [List.length_append, Wr.leBytes_len]; decide) w.heap.size R HR.out HR4.out (by omega) HV4.out).mono ?_
  rintro e w5 ⟨rfl, hw5⟩
  have HR5 := Lib.hid (wrote_blk hw5 HR4.out (by omega) HV4.out)
  obtain ⟨v5, b1, b2, b3, b4⟩ := hw5
  have HW5 := Lib.hid b1
  have HB5 := Lib.hid (HB4.out.trans b3)
  have HR0 := Lib.hid (right_calls w5 R)
  rw [HRt.out] at HR0
  clear b1 b2 b3 b4 ck4 cr4
  go_wp2_with (first | ((with_reducible refine gate_load (t := 51) (p := 1) rfl ?_); refine gate_guard (by rfl) ?_; refine load_rec rfl 51 (.tmp 1) rfl _ Tryd.underlying51 rfl info51 w.heap.size 51 R rfl HR5.out ?_))
  refine (HR0.out).mono ?_
  rintro e w6 ⟨rfl, hb6⟩
  have HR6 := Lib.hid (blk_kept HR5.out (Kept.of_below hb6 (fun _ => False)) (fun h => h))
  have hw6 : Wq.IsW w6 w.heap.size (w.heap.size + 1) v5 (([] ++ Wr.leBytes R.kind 1) ++ (if R.kind = 1 then Wr.leBytes R.frame 8 ++ Wr.leBytes R.own 1 else if R.kind = 2 then Wr.leBytes R.frame 8 ++ Wr.leBytes R.p0 1 ++ Wr.leBytes R.p1 1 else Wr.leBytes R.seg 8 ++ Wr.leBytes R.first 8 ++ Wr.leBytes R.epoch 8 ++ Wr.leBytes R.player 1)) := isw_below HW5.out hb6
  have HB6 := Lib.hid (HB5.out.trans (hb6.mono HB5.out.size))
  have HY := Lib.hid (Wq.wBytes w.heap.size (w.heap.size + 1) v5 _ w6 hw6 (by
    rw [List.length_append, List.length_append, Wr.leBytes_len]
    split
    · simp [Wr.leBytes_len]
    · split <;> simp [Wr.leBytes_len]))
  clear hb6 hw6
  go_wp2_with fail
  refine (HY.out).mono ?_
  rintro e w7 ⟨rfl, ⟨m, rfl⟩⟩
  rw [List.nil_append, show Wr.leBytes R.kind 1 ++ (if R.kind = 1 then Wr.leBytes R.frame 8 ++ Wr.leBytes R.own 1 else if R.kind = 2 then Wr.leBytes R.frame 8 ++ Wr.leBytes R.p0 1 ++ Wr.leBytes R.p1 1 else Wr.leBytes R.seg 8 ++ Wr.leBytes R.first 8 ++ Wr.leBytes R.epoch 8 ++ Wr.leBytes R.player 1) = R.bytes from rfl, str_bs, show bs (enc R.bytes) = bs R.text from rfl]
  have HR7 := Lib.hid (show (w6.drewN m).heap[w.heap.size]? = some (.cells R.cells 51 (0, 0)) from HR6.out)
  have HB7 := Lib.hid (pw_below_drewN HB6.out m)
  clear HY
  generalize w6.drewN m = w7 at *
  have HTk := Lib.hid (take_calls R.text (by have := HTL.out; omega) w7)
  rw [HT.out] at HTk
  generalize htx : bs R.text = tx at *
  have HTX := Lib.hid htx
  clear htx
  go_wp2_with fail
  refine (HTk.out).mono ?_
  rintro e w8 ⟨rfl, hb8⟩
  have HR8 := Lib.hid (blk_kept HR7.out (Kept.of_below hb8 (fun _ => False)) (fun h => h))
  have HB8 := Lib.hid (HB7.out.trans (hb8.mono HB7.out.size))
  clear hb8
  have hg51 := guard51 .neq (.tmp 44) (.tmp 45) R R
  have hn51 : ∀ w, (binOp .neq 51 R.val R.val).run Tryd.prog w = .ok (.bool false) w := fun w => by rw [neq51, decide_eq_true rfl]; rfl
  go_wp2_with (first | ((with_reducible refine gate_store (t := 51) (p := 7) rfl ?_); refine store_rec rfl 51 (.tmp 7) (.tmp 39) rfl info51 w8.heap.size 51 R Rec.zero rfl rfl (by exact heap_alloc_new w8 _) ?_; intro w9 hz9 hk9 hb9; have HZ9 := Lib.hid hz9; have HB9 := Lib.hid (hb9 w.heap.size w HB8.out.size (HB8.out.alloc HB8.out.size _)); have HR9 := Lib.hid (blk_kept (blk_alloc HR8.out (.cells Rec.zero.cells 51)) hk9 (by have := blk_lt HR8.out; omega)); clear hz9 hk9 hb9) | ((with_reducible refine gate_load (t := 51) (p := 7) rfl ?_); refine gate_guard (by rfl) ?_; refine load_rec rfl 51 (.tmp 7) rfl _ Tryd.underlying51 rfl info51 w8.heap.size 51 R rfl HZ9.out ?_) | ((with_reducible refine gate_load (t := 51) (p := 1) rfl ?_); refine gate_guard (by rfl) ?_; refine load_rec rfl 51 (.tmp 1) rfl _ Tryd.underlying51 rfl info51 w.heap.size 51 R rfl HR9.out ?_))
  go_ret2
  exact ⟨by rw [HTX.out]; rfl, HB9.out⟩
end Go.Proofs.YtnhjhaphfdlkfaaDoor.Sg
/- The scanner: its state; begin. -/
set_option linter.unusedVariables false
namespace Go.Proofs.YtnhjhaphfdlkfaaDoor.Sg
open Go.RowKit Go.Proofs.YtnhjhaphfdlkfaaDoor.HF Go.Proofs.YtnhjhaphfdlkfaaDoor.SB Go.Proofs.YtnhjhaphfdlkfaaDoorW.PrintWords Go.Proofs.YtnhjhaphfdlkfaaDoorW.PrintLast Go.Proofs.YtnhjhaphfdlkfaaDoorW.PrintMore
/-- What records say so far. -/
structure Sc where
  head : Rec
  l : List Rec
  begun : Bool
  count : Int
  owned : List Int
def scCells (n : Int) (x : Sc) (vl vo : Value) : Array Value :=
  #[.int .u64 n, .int .i64 x.head.kind, .int .u64 x.head.frame, .int .u8 x.head.own, .int .u8 x.head.p0, .int .u8 x.head.p1, .int .u64 x.head.seg, .int .u64 x.head.first, .int .u64 x.head.epoch, .int .u8 x.head.player, vl, .bool x.begun, .int .u64 x.count, vo]
def flatR : List Rec → List Value
  | [] => []
  | r :: l => r.cells.toList ++ flatR l
theorem flatR_len : ∀ l : List Rec, (flatR l).length = l.length * 9
  | [] => rfl
  | r :: l => by rw [flatR, List.length_append, flatR_len l, Array.length_toList, r.size, List.length_cons]; omega
theorem flatR_append : ∀ (l k : List Rec), flatR (l ++ k) = flatR l ++ flatR k
  | [], k => rfl
  | r :: l, k => by rw [List.cons_append, flatR, flatR, flatR_append l k, List.append_assoc]
theorem flatR_one (r : Rec) : flatR [r] = r.cells.toList := by rw [flatR, flatR, List.append_nil]
theorem flatR_at : ∀ (l : List Rec) (i : Nat) (h : i < l.length) (j : Nat), j < 9 → (flatR l)[i * 9 + j]? = (l[i]).cells[j]?
  | [], i, h, _, _ => by simp at h
  | r :: l, 0, h, j, hj => by
    rw [flatR, Nat.zero_mul, Nat.zero_add, List.getElem?_append_left (by rw [Array.length_toList, r.size]; exact hj), Array.getElem?_toList]; rfl
  | r :: l, i + 1, h, j, hj => by
    rw [flatR, List.getElem?_append_right (by rw [Array.length_toList, r.size]; omega), Array.length_toList, r.size, show (i + 1) * 9 + j - 9 = i * 9 + j by omega]
    exact flatR_at l i (by simpa using h) j hj
/-- A scanner at block g; its blocks are among F. -/
def IsSc (w : World) (base g : Nat) (n : Int) (x : Sc) (F : Nat → Prop) : Prop :=
  ∃ vl vo, w.heap[g]? = some (.cells (scCells n x vl vo) 102 (0, 0)) ∧ QRow w base 51 9 vl x.l.length (flatR x.l) ∧ QRow w base 47 1 vo x.owned.length (nums .u8 x.owned) ∧ F g ∧ (∀ k, vl.ownBlock = some k → F k) ∧ (∀ k, vo.ownBlock = some k → F k) ∧ (∀ k, F k → base ≤ k ∧ k < w.heap.size)
def DidSc (w w' : World) (base g : Nat) (n : Int) (x : Sc) (F : Nat → Prop) : Prop :=
  ∃ F', IsSc w' base g n x F' ∧ (∀ k, F' k → F k ∨ w.heap.size ≤ k) ∧ Kept w w' F ∧ Below base w w'
theorem sc_kept {w w1 : World} {base g : Nat} {n : Int} {x : Sc} {F S : Nat → Prop} (h : IsSc w base g n x F) (hk : Kept w w1 S) (hn : ∀ k, F k → ¬ S k) : IsSc w1 base g n x F := by
  obtain ⟨vl, vo, h1, h2, h3, h4, h5, h6, h7⟩ := h
  exact ⟨vl, vo, blk_kept h1 hk (hn g h4), q_move h2 (fun k e => hk.2 k (h7 k (h5 k e)).2 (hn k (h5 k e))), q_move h3 (fun k e => hk.2 k (h7 k (h6 k e)).2 (hn k (h6 k e))), h4, h5, h6, fun k hf => ⟨(h7 k hf).1, Nat.lt_of_lt_of_le (h7 k hf).2 hk.1⟩⟩
section
variable {P : Program} {ops : Array Oper} {rest : List Oper} {o : Oper} {a : Act} {Q : Exit → Act → World → Prop} {K : Act → World → Prop} {W : World}
def putSeg (cs : Array Value) (off : Nat) (vs : Array Value) : Array Value := (cs.toList.take off ++ vs.toList ++ cs.toList.drop (off + vs.size)).toArray
theorem seg_world (b off : Nat) (cs : Array Value) (T : TypeId) (vs : Array Value) (hb : W.heap[b]? = some (.cells cs T (0, 0))) (hfit : off + vs.size ≤ cs.size) :
    (W.setCells b off vs.toList).heap[b]? = some (.cells (putSeg cs off vs) T (0, 0)) ∧ Kept W (W.setCells b off vs.toList) (fun i => i = b) ∧ ∀ B w0, B ≤ b → Below B w0 W → Below B w0 (W.setCells b off vs.toList) := by
  obtain ⟨cur, h1, h2, h3⟩ := setCells_row (g := b) vs.toList off W cs hb (by rw [Array.length_toList]; exact hfit)
  obtain ⟨s1, s2, s3, s4⟩ := setCells_same b vs.toList off W
  have hcur : cur = putSeg cs off vs := by
    unfold putSeg
    apply Array.toList_inj.1
    rw [h3, Array.length_toList, List.toList_toArray]
  rw [hcur] at h1
  exact ⟨h1, ⟨by rw [s4]; exact Nat.le_refl _, fun i _ hn => setCells_far _ _ i hn⟩, fun B w0 hB hw => ⟨s1.trans hw.os, s2.trans hw.tape, s3.trans hw.output, by rw [s4]; exact hw.size, fun i hi => (setCells_far _ _ i (by omega)).trans (hw.block i hi)⟩⟩
/-- A record is stored into a block: as a step of a region that draws. -/
theorem step_store_seg (hw : Region.wanted o (yielded ops a.tmps) = true) (ty : TypeId) (x y : Operand) (ho : o.op = .store ty x y) (hi : (P.info? ty).map (·.size) = some 9) (b off : Nat) (cs : Array Value) (T : TypeId) (R : Rec) (hx : a.eval x = .pointer (some ⟨b, off, none⟩)) (hy : a.eval y = R.val)
    (hb : W.heap[b]? = some (.cells cs T (0, 0))) (hfit : off + 9 ≤ cs.size)
    (h : ∀ w', w'.heap[b]? = some (.cells (putSeg cs off R.cells) T (0, 0)) → Kept W w' (fun i => i = b) → (∀ B w0, B ≤ b → Below B w0 W → Below B w0 w') → K (a.put o.dst undef) w') :
    if Region.wanted o (yielded ops a.tmps) = true then Oper.wp P o a W K Q else K (a.put o.dst undef) W := by
  rw [if_pos hw]
  obtain ⟨h1, h2, h3⟩ := seg_world b off cs T R.cells hb hfit
  refine wp_store_mid ty x y ho b off R.cells hx hy (fun j hj => ⟨?_, blk_frozen hb _⟩) hi R.ones (h _ h1 h2 h3)
  have hj' : j < 9 := hj
  rw [blk_cell hb (off + j), Array.getElem?_eq_getElem (by omega)]
  rfl
end
/-- The fields are stored anew, but for the two slices. -/
theorem sc_set {w w' : World} {base g : Nat} {n : Int} {x x' : Sc} {F : Nat → Prop} {vl vo : Value} (h2 : QRow w base 51 9 vl x.l.length (flatR x.l)) (h3 : QRow w base 47 1 vo x.owned.length (nums .u8 x.owned)) (h4 : F g) (h5 : ∀ k, vl.ownBlock = some k → F k) (h6 : ∀ k, vo.ownBlock = some k → F k) (h7 : ∀ k, F k → base ≤ k ∧ k < w.heap.size)
    (hg : ∃ cs, w.heap[g]? = some (.cells cs 102 (0, 0))) (hb : w'.heap[g]? = some (.cells (scCells n x' vl vo) 102 (0, 0))) (hk : Kept w w' (fun i => i = g)) (hB : Below base w w') (hl : x'.l = x.l) (ho : x'.owned = x.owned) : DidSc w w' base g n x' F := by
  obtain ⟨cs, hcs⟩ := hg
  have hvl : ∀ k, vl.ownBlock = some k → k ≠ g := fun k e hkg => by
    subst hkg
    obtain ⟨_, cells, hc⟩ := q_typed h2 k e
    rw [hcs] at hc; simp at hc
  have hvo : ∀ k, vo.ownBlock = some k → k ≠ g := fun k e hkg => by
    subst hkg
    obtain ⟨_, cells, hc⟩ := q_typed h3 k e
    rw [hcs] at hc; simp at hc
  refine ⟨F, ⟨vl, vo, hb, ?_, ?_, h4, h5, h6, fun k hf => ⟨(h7 k hf).1, Nat.lt_of_lt_of_le (h7 k hf).2 hk.1⟩⟩, fun k hf => Or.inl hf, hk.mono (fun k e => e ▸ h4), hB⟩
  · rw [hl]
    exact q_move h2 (fun k e => hk.2 k (h7 k (h5 k e)).2 (hvl k e))
  · rw [ho]
    exact q_move h3 (fun k e => hk.2 k (h7 k (h6 k e)).2 (hvo k e))
theorem begin_cells (n : Int) (x : Sc) (vl vo : Value) (r : Rec) : ((((((((((((scCells n x vl vo).setIfInBounds 1 (.int .i64 r.kind)).setIfInBounds 2 (.int .u64 r.frame)).setIfInBounds 3 (.int .u8 r.own)).setIfInBounds 4 (.int .u8 r.p0)).setIfInBounds 5 (.int .u8 r.p1)).setIfInBounds 6 (.int .u64 r.seg)).setIfInBounds 7 (.int .u64 r.first)).setIfInBounds 8 (.int .u64 r.epoch)).setIfInBounds 9 (.int .u8 r.player)).setIfInBounds 11 (.bool true)).setIfInBounds 12 (.int .u64 r.first)) = scCells n { x with head := r, begun := true, count := r.first } vl vo := by
  apply Array.toList_inj.1
  simp [scCells]
theorem begin_world (W : World) (g : Nat) (n : Int) (x : Sc) (vl vo : Value) (r : Rec) (hb : W.heap[g]? = some (.cells (scCells n x vl vo) 102 (0, 0))) :
    (((((((((((W.setCell ⟨g, 1, none⟩ (.int .i64 r.kind)).setCell ⟨g, 2, none⟩ (.int .u64 r.frame)).setCell ⟨g, 3, none⟩ (.int .u8 r.own)).setCell ⟨g, 4, none⟩ (.int .u8 r.p0)).setCell ⟨g, 5, none⟩ (.int .u8 r.p1)).setCell ⟨g, 6, none⟩ (.int .u64 r.seg)).setCell ⟨g, 7, none⟩ (.int .u64 r.first)).setCell ⟨g, 8, none⟩ (.int .u64 r.epoch)).setCell ⟨g, 9, none⟩ (.int .u8 r.player)).setCell ⟨g, 11, none⟩ (.bool true)).setCell ⟨g, 12, none⟩ (.int .u64 r.first)).heap[g]? = some (.cells (scCells n { x with head := r, begun := true, count := r.first } vl vo) 102 (0, 0)) := by
  rw [← begin_cells]
  exact (blk_set (blk_set (blk_set (blk_set (blk_set (blk_set (blk_set (blk_set (blk_set (blk_set (blk_set hb 1 _) 2 _) 3 _) 4 _) 5 _) 6 _) 7 _) 8 _) 9 _) 11 _) 12 _)
/-- begin. -/
def beginS (n : Int) (x : Sc) (r : Rec) : Sc × Int := if x.begun = true ∨ r.seg ≠ n then (x, 11) else ({ x with head := r, begun := true, count := r.first }, 0)
set_option maxHeartbeats 2000000 in
set_option maxRecDepth 100000 in
theorem begin_calls (w : World) (base g : Nat) (n : Int) (x : Sc) (F : Nat → Prop) (h : IsSc w base g n x F) (hbw : base ≤ w.heap.size) (r : Rec) :
    Calls Tryd.prog 73 #[.pointer (some ⟨g, 0, none⟩), r.val] w fun e w' => e = .returned (.int .i64 (beginS n x r).2) ∧ DidSc w w' base g n (beginS n x r).1 F := by
  obtain ⟨vl, vo, h1, h2, h3, h4, h5, h6, h7⟩ := h
  have hg := h7 g h4
  have c0 : w.cell? ⟨g, 0, none⟩ = some (.int .u64 n) := blk_cell h1 0
  have c1 : w.cell? ⟨g, 1, none⟩ = some (.int .i64 x.head.kind) := blk_cell h1 1
  have c2 : w.cell? ⟨g, 2, none⟩ = some (.int .u64 x.head.frame) := blk_cell h1 2
  have c3 : w.cell? ⟨g, 3, none⟩ = some (.int .u8 x.head.own) := blk_cell h1 3
  have c4 : w.cell? ⟨g, 4, none⟩ = some (.int .u8 x.head.p0) := blk_cell h1 4
  have c5 : w.cell? ⟨g, 5, none⟩ = some (.int .u8 x.head.p1) := blk_cell h1 5
  have c6 : w.cell? ⟨g, 6, none⟩ = some (.int .u64 x.head.seg) := blk_cell h1 6
  have c7 : w.cell? ⟨g, 7, none⟩ = some (.int .u64 x.head.first) := blk_cell h1 7
  have c8 : w.cell? ⟨g, 8, none⟩ = some (.int .u64 x.head.epoch) := blk_cell h1 8
  have c9 : w.cell? ⟨g, 9, none⟩ = some (.int .u8 x.head.player) := blk_cell h1 9
  have z1 : w.frozen? ⟨g, 1, none⟩ = false := blk_frozen h1 1
  have z2 : w.frozen? ⟨g, 2, none⟩ = false := blk_frozen h1 2
  have z3 : w.frozen? ⟨g, 3, none⟩ = false := blk_frozen h1 3
  have z4 : w.frozen? ⟨g, 4, none⟩ = false := blk_frozen h1 4
  have z5 : w.frozen? ⟨g, 5, none⟩ = false := blk_frozen h1 5
  have z6 : w.frozen? ⟨g, 6, none⟩ = false := blk_frozen h1 6
  have z7 : w.frozen? ⟨g, 7, none⟩ = false := blk_frozen h1 7
  have z8 : w.frozen? ⟨g, 8, none⟩ = false := blk_frozen h1 8
  have z9 : w.frozen? ⟨g, 9, none⟩ = false := blk_frozen h1 9
  have z11 : w.frozen? ⟨g, 11, none⟩ = false := blk_frozen h1 11
  have z12 : w.frozen? ⟨g, 12, none⟩ = false := blk_frozen h1 12
  have c11 : w.cell? ⟨g, 11, none⟩ = some (.bool x.begun) := blk_cell h1 11
  have c12 : w.cell? ⟨g, 12, none⟩ = some (.int .u64 x.count) := blk_cell h1 12
  have hne : g ≠ w.heap.size := by omega
  have hlt := hg.2
  have HB1 := Lib.hid h1
  have H2 := Lib.hid h2
  have H3 := Lib.hid h3
  clear h1 h2 h3
  unfold Rec.val Rec.cells
  cases hbeg : x.begun
  · rw [hbeg] at c11
    by_cases hs : r.seg = n
    · have hsb : (r.seg != n) = false := by simp [hs]
      have HBS := Lib.hid (show beginS n x r = ({ x with head := r, begun := true, count := r.first }, 0) from if_neg (by rw [hbeg]; simp [hs]))
      clear hs
      go_enter Tryd.func73, Tryd.ntmps73
      go_wp2_with fail
      go_quiet (fail)
      go_wp2_with fail
      go_region
      all_goals
        go_wp2
        go_ret
        rw [HBS.out]
        refine ⟨rfl, ?_⟩
        refine sc_set H2.out H3.out h4 h5 h6 h7 ⟨_, HB1.out⟩ ?_ ?_ ?_ rfl rfl
        · exact begin_world _ g n x vl vo r (show ((w.alloc (.cells r.cells 51)).drewN (nq + 1)).heap[g]? = _ from blk_alloc HB1.out _)
        · repeat (refine Kept.setCell (S := fun i => i = g) ?_ (Or.inl rfl) _)
          exact ((Kept.refl w _).alloc _).drewN _
        · repeat (refine Below.setCell ?_ hg.1 _)
          exact pw_below_drewN ((Below.refl base w).alloc hbw _) _
    · have hsb : (r.seg != n) = true := by simp [hs]
      have HS := Lib.hid (show beginS n x r = (x, 11) from if_pos (Or.inr hs))
      clear hs
      go_enter Tryd.func73, Tryd.ntmps73
      go_wp2_with fail
      go_quiet (fail)
      go_wp2
      go_ret
      rw [HS.out]
      exact ⟨rfl, sc_set H2.out H3.out h4 h5 h6 h7 ⟨_, HB1.out⟩ (blk_alloc HB1.out _) (((Kept.refl w _).alloc _).drewN _) (pw_below_drewN ((Below.refl base w).alloc hbw _) _) rfl rfl⟩
  · rw [hbeg] at c11
    have HS := Lib.hid (show beginS n x r = (x, 11) from if_pos (Or.inl hbeg))
    clear hbeg
    go_enter Tryd.func73, Tryd.ntmps73
    go_wp2_with fail
    go_quiet (fail)
    go_wp2
    go_ret
    rw [HS.out]
    exact ⟨rfl, sc_set H2.out H3.out h4 h5 h6 h7 ⟨_, HB1.out⟩ (blk_alloc HB1.out _) (((Kept.refl w _).alloc _).drewN _) (pw_below_drewN ((Below.refl base w).alloc hbw _) _) rfl rfl⟩
end Go.Proofs.YtnhjhaphfdlkfaaDoor.Sg
/- The scanner's own. -/
set_option linter.unusedVariables false
set_option linter.unusedSimpArgs false
namespace Go.Proofs.YtnhjhaphfdlkfaaDoor.Sg
open Go.RowKit Go.Proofs.YtnhjhaphfdlkfaaDoor.HF Go.Proofs.YtnhjhaphfdlkfaaDoor.SB Go.Proofs.YtnhjhaphfdlkfaaDoorW.PrintWords Go.Proofs.YtnhjhaphfdlkfaaDoorW.PrintLast Go.Proofs.YtnhjhaphfdlkfaaDoorW.PrintMore
theorem q_alloc {w : World} {base n size : Nat} {e : TypeId} {v : Value} {xs : List Value} (h : QRow w base e size v n xs) (ob : Obj) : QRow (w.alloc ob) base e size v n xs := q_move h (fun k hk => Below.heap_alloc w ob k (q_lt h k hk))
theorem q_other {w w1 : World} {base n size n' size' : Nat} {e e' : TypeId} {v v' : Value} {xs xs' : List Value} (h : QRow w base e size v n xs) (h' : QRow w base e' size' v' n' xs') (hne : e ≠ e') (hg : w.grownBy w1 v'.ownBlock) : QRow w1 base e size v n xs :=
  q_move h (fun k hk => hg.block k (q_lt h k hk) (fun e2 => by
    obtain ⟨_, c1, h1⟩ := q_typed h k hk
    obtain ⟨_, c2, h2⟩ := q_typed h' k e2.symm
    rw [h1] at h2
    simp at h2
    exact hne h2.2))
section
variable {P : Program} {ops : Array Oper} {o : Oper} {a : Act} {Q : Exit → Act → World → Prop} {K : Act → World → Prop} {W : World}
/-- append onto a row that may begin inside its block, as a step of a region that draws. -/
theorem q_app_step (base : Nat) (hw : Region.wanted o (yielded ops a.tmps) = true) (s x : Operand) (t e : TypeId) (z : Value) (size bytes : Nat)
    (ho : o.op = .call { callee := .builtin .append, args := #[s, x], argTypes := #[t, t] })
    (ht : P.underlying t = some (.slice e)) (hinfo : (P.info? e).map (fun i => (i.zero, i.size, i.bytes)) = some (some z, size, bytes)) (hz : z.cells.size = size) (hs0 : 0 < size) (hb0 : 0 < bytes)
    (v : Value) (n : Nat) (xs : List Value) (A : Addr) (m c : Nat) (news : List Value) (hs : a.eval s = v) (hx : a.eval x = .slice (some A) m c) (hm : 0 < m) (hys : news.length = m * size) (hnews : ∀ j u, news[j]? = some u → W.cell? (A.add j) = some u) (h1 : ∀ u ∈ news, u.oneCell' = true)
    (HO : QRow W base e size v n xs) (hbase : base ≤ W.heap.size) (hl : (n + m) * bytes ≤ 140737488355328)
    (h : ∀ v1 w1, QRow w1 base e size v1 (n + m) (xs ++ news) → W.grownBy w1 v.ownBlock → (v1.ownBlock = v.ownBlock ∨ ∃ b, v1.ownBlock = some b ∧ W.heap.size ≤ b) → K (a.put o.dst v1) w1) :
    if Region.wanted o (yielded ops a.tmps) = true then Oper.wp P o a W K Q else K (a.put o.dst undef) W := by
  obtain ⟨i0, hi, hzz⟩ := Option.map_eq_some_iff.1 hinfo
  simp only [Prod.mk.injEq] at hzz
  obtain ⟨hz0, hz1, hz2⟩ := hzz
  have hlen : n + m ≤ 140737488355328 := Nat.le_trans (Nat.le_mul_of_pos_right _ hb0) hl
  rw [if_pos hw]
  obtain ⟨v1, w1, hr, hown, hg, hat⟩ := q_append (P := P) W base t o.type e i0 z size bytes ht hi hz0 hz1 hz2 hz hs0 v n xs HO A m c news hys hnews h1 hm (by simp only [maxLen]; omega) hl hbase
  unfold Oper.wp execOp
  simp only [ho, resolve, invoke, builtin, Sem.run_bind, Sem.run_pure, Result.andThen_ok, List.map_toArray, List.map_cons, List.map_nil, hs, hx, hr]
  exact h v1 w1 hown hg hat
end
/-- Between the steps of a region that appends to both slices: what lies where. rb: the box of the record that came in, the first block that is new. -/
structure Mid (w : World) (base g : Nat) (n : Int) (x : Sc) (r : Rec) (vl vo : Value) (F : Nat → Prop) (w' : World) (L : List Rec) (O : List Int) (vl' vo' : Value) : Prop where
  hg : w'.heap[g]? = some (.cells (scCells n x vl vo) 102 (0, 0))
  hr : w'.heap[w.heap.size]? = some (.cells r.cells 51 (0, 0))
  ql : QRow w' base 51 9 vl' L.length (flatR L)
  qo : QRow w' base 47 1 vo' O.length (nums .u8 O)
  kept : Kept w w' F
  below : Below base w w'
  al : ∀ k, vl'.ownBlock = some k → F k ∧ k < w.heap.size ∨ w.heap.size < k
  ao : ∀ k, vo'.ownBlock = some k → F k ∧ k < w.heap.size ∨ w.heap.size < k
theorem mid_base {w w' : World} {base g : Nat} {n : Int} {x : Sc} {r : Rec} {vl vo vl' vo' : Value} {F : Nat → Prop} {L : List Rec} {O : List Int} (h : Mid w base g n x r vl vo F w' L O vl' vo') (hb : base ≤ w.heap.size) : base ≤ w'.heap.size := Nat.le_trans hb h.kept.1
theorem mid_lt {w w' : World} {base g : Nat} {n : Int} {x : Sc} {r : Rec} {vl vo vl' vo' : Value} {F : Nat → Prop} {L : List Rec} {O : List Int} (h : Mid w base g n x r vl vo F w' L O vl' vo') : w.heap.size < w'.heap.size := blk_lt h.hr
theorem mid_alloc {w w' : World} {base g : Nat} {n : Int} {x : Sc} {r : Rec} {vl vo vl' vo' : Value} {F : Nat → Prop} {L : List Rec} {O : List Int} (h : Mid w base g n x r vl vo F w' L O vl' vo') (hb : base ≤ w.heap.size) (ob : Obj) : Mid w base g n x r vl vo F (w'.alloc ob) L O vl' vo' :=
  ⟨blk_alloc h.hg ob, blk_alloc h.hr ob, q_alloc h.ql ob, q_alloc h.qo ob, h.kept.alloc ob, h.below.alloc (mid_base h hb) ob, h.al, h.ao⟩
/-- A block that is new and no row's is as it was, whichever slice is appended to. -/
theorem mid_far {w w' w2 : World} {base g : Nat} {n : Int} {x : Sc} {r : Rec} {vl vo vl' vo' : Value} {F : Nat → Prop} {L : List Rec} {O : List Int} (h : Mid w base g n x r vl vo F w' L O vl' vo') {v : Value} (hv : ∀ k, v.ownBlock = some k → F k ∧ k < w.heap.size) (hg : w'.grownBy w2 v.ownBlock) {k : Nat} {o : Obj} (hk : w.heap.size ≤ k) (hb : w'.heap[k]? = some o) : w2.heap[k]? = some o :=
  (hg.block k (blk_lt hb) (fun e => by have := (hv k e.symm).2; omega)).trans hb
theorem mid_appO {w w' w2 : World} {base g : Nat} {n : Int} {x : Sc} {r : Rec} {vl vo vl' vo' : Value} {F : Nat → Prop} {L : List Rec} {O : List Int} (h : Mid w base g n x r vl vo F w' L O vl' vo') (hv : ∀ k, vo'.ownBlock = some k → F k ∧ k < w.heap.size) (hbw : base ≤ w.heap.size) (u : Int) {v2 : Value}
    (hq : QRow w2 base 47 1 v2 (O.length + 1) (nums .u8 O ++ [.int .u8 u])) (hg : w'.grownBy w2 vo'.ownBlock) (hat : v2.ownBlock = vo'.ownBlock ∨ ∃ b, v2.ownBlock = some b ∧ w'.heap.size ≤ b) : Mid w base g n x r vl vo F w2 L (O ++ [u]) vl' v2 := by
  have hlt := mid_lt h
  refine ⟨?_, mid_far h hv hg (Nat.le_refl _) h.hr, q_other h.ql h.qo (by decide) hg, ?_, Kept.of_grown hg h.kept (fun k hk => Or.inl (hv k hk).1), h.below.grown hg (mid_base h hbw) (fun k hk => (q_typed h.qo k hk).1), h.al, fun k hk => ?_⟩
  · refine (hg.block g (blk_lt h.hg) (fun e => ?_)).trans h.hg
    obtain ⟨_, c, hc⟩ := q_typed h.qo g e.symm
    have := h.hg
    rw [hc] at this; simp at this
  · rw [List.length_append, show nums .u8 (O ++ [u]) = nums .u8 O ++ [.int .u8 u] by simp [nums]]; exact hq
  · rcases hat with e | ⟨b, e, hb⟩
    · exact h.ao k (e ▸ hk)
    · rw [e] at hk; cases hk; exact Or.inr (by omega)
theorem mid_appL {w w' w2 : World} {base g : Nat} {n : Int} {x : Sc} {r : Rec} {vl vo vl' vo' : Value} {F : Nat → Prop} {L : List Rec} {O : List Int} (h : Mid w base g n x r vl vo F w' L O vl' vo') (hv : ∀ k, vl'.ownBlock = some k → F k ∧ k < w.heap.size) (hbw : base ≤ w.heap.size) (q : Rec) {v2 : Value}
    (hq : QRow w2 base 51 9 v2 (L.length + 1) (flatR L ++ q.cells.toList)) (hg : w'.grownBy w2 vl'.ownBlock) (hat : v2.ownBlock = vl'.ownBlock ∨ ∃ b, v2.ownBlock = some b ∧ w'.heap.size ≤ b) : Mid w base g n x r vl vo F w2 (L ++ [q]) O v2 vo' := by
  have hlt := mid_lt h
  refine ⟨?_, mid_far h hv hg (Nat.le_refl _) h.hr, ?_, q_other h.qo h.ql (by decide) hg, Kept.of_grown hg h.kept (fun k hk => Or.inl (hv k hk).1), h.below.grown hg (mid_base h hbw) (fun k hk => (q_typed h.ql k hk).1), fun k hk => ?_, h.ao⟩
  · refine (hg.block g (blk_lt h.hg) (fun e => ?_)).trans h.hg
    obtain ⟨_, c, hc⟩ := q_typed h.ql g e.symm
    have := h.hg
    rw [hc] at this; simp at this
  · rw [List.length_append, flatR_append, flatR_one]; exact hq
  · rcases hat with e | ⟨b, e, hb⟩
    · exact h.al k (e ▸ hk)
    · rw [e] at hk; cases hk; exact Or.inr (by omega)
theorem news_blk {W : World} {A : Nat} {cs : Array Value} {T : TypeId} (hb : W.heap[A]? = some (.cells cs T (0, 0))) : ∀ j u, cs.toList[j]? = some u → W.cell? ((⟨A, 0, none⟩ : Addr).add j) = some u := by
  intro j u hu
  rw [add_at, Nat.zero_add, blk_cell hb j, ← Array.getElem?_toList]; exact hu
/-- Both slices are stored: the scanner behind it. -/
theorem mid_end {w w' : World} {base g : Nat} {n : Int} {x x' : Sc} {r : Rec} {vl vo vl' vo' : Value} {F : Nat → Prop} {L : List Rec} {O : List Int} (h : Mid w base g n x r vl vo F w' L O vl' vo') (h4 : F g) (h7 : ∀ k, F k → base ≤ k ∧ k < w.heap.size) (hbw : base ≤ w.heap.size) {w2 : World} (hb : w2.heap[g]? = some (.cells (scCells n x' vl' vo') 102 (0, 0))) (hk : Kept w' w2 (fun i => i = g)) (hB : Below base w' w2) (hl : x'.l = L) (ho : x'.owned = O) : DidSc w w2 base g n x' F := by
  have hgl := (h7 g h4).2
  have hvl : ∀ k, vl'.ownBlock = some k → k ≠ g := fun k e hkg => by
    subst hkg
    obtain ⟨_, c, hc⟩ := q_typed h.ql _ e
    have := h.hg
    rw [hc] at this; simp at this
  have hvo : ∀ k, vo'.ownBlock = some k → k ≠ g := fun k e hkg => by
    subst hkg
    obtain ⟨_, c, hc⟩ := q_typed h.qo _ e
    have := h.hg
    rw [hc] at this; simp at this
  have ql2 : QRow w2 base 51 9 vl' L.length (flatR L) := q_move h.ql (fun k e => hk.2 k (q_lt h.ql k e) (hvl k e))
  have qo2 : QRow w2 base 47 1 vo' O.length (nums .u8 O) := q_move h.qo (fun k e => hk.2 k (q_lt h.qo k e) (hvo k e))
  refine ⟨fun k => F k ∨ vl'.ownBlock = some k ∨ vo'.ownBlock = some k, ⟨vl', vo', hb, by rw [hl]; exact ql2, by rw [ho]; exact qo2, Or.inl h4, fun k e => Or.inr (Or.inl e), fun k e => Or.inr (Or.inr e), ?_⟩, ?_, h.kept.then_ hk (fun k e => Or.inl (e ▸ h4)), h.below.trans hB⟩
  · intro k hf
    rcases hf with hf | hf | hf
    · exact ⟨(h7 k hf).1, Nat.lt_of_lt_of_le (h7 k hf).2 (Nat.le_trans h.kept.1 hk.1)⟩
    · exact ⟨(q_typed ql2 k hf).1, q_lt ql2 k hf⟩
    · exact ⟨(q_typed qo2 k hf).1, q_lt qo2 k hf⟩
  · intro k hf
    rcases hf with hf | hf | hf
    · exact Or.inl hf
    · rcases h.al k hf with h | h
      · exact Or.inl h.1
      · exact Or.inr (by omega)
    · rcases h.ao k hf with h | h
      · exact Or.inl h.1
      · exact Or.inr (by omega)
theorem info47 : (Tryd.prog.info? 47).map (fun i => (i.zero, i.size, i.bytes)) = some (some (.int .u8 0), 1, 1) := by kernel_rfl
theorem info51b : (Tryd.prog.info? 51).map (fun i => (i.zero, i.size, i.bytes)) = some (some Rec.zero.val, 9, 56) := by kernel_rfl
def ownS (x : Sc) (r : Rec) : Sc × Int := if x.begun = true ∧ x.owned.length < 12 ∧ r.frame ≠ 18446744073709551615 ∧ r.frame = x.count + x.owned.length then ({ x with owned := x.owned ++ [r.own], l := x.l ++ [r] }, 0) else (x, 11)
set_option maxHeartbeats 4000000 in
set_option maxRecDepth 100000 in
theorem own_calls (w : World) (base g : Nat) (n : Int) (x : Sc) (F : Nat → Prop) (h : IsSc w base g n x F) (hbw : base ≤ w.heap.size) (r : Rec) (hr : 0 ≤ r.frame ∧ r.frame < 18446744073709551616) (hc : 0 ≤ x.count ∧ x.count < 18446744073709551616) (hll : x.l.length ≤ 100000) :
    Calls Tryd.prog 72 #[.pointer (some ⟨g, 0, none⟩), r.val] w fun e w' => e = .returned (.int .i64 (ownS x r).2) ∧ DidSc w w' base g n (ownS x r).1 F := by
  obtain ⟨vl, vo, h1, h2, h3, h4, h5, h6, h7⟩ := h
  have hg := h7 g h4
  have c4 : w.cell? ⟨g, 12, none⟩ = some (.int .u64 x.count) := blk_cell h1 12
  have c11 : w.cell? ⟨g, 11, none⟩ = some (.bool x.begun) := blk_cell h1 11
  obtain ⟨Ao, co, rfl, hoc⟩ := q_slice h3
  obtain ⟨Al, cl, rfl, hlc⟩ := q_slice h2
  have c13 : w.cell? ⟨g, 13, none⟩ = some (.slice Ao x.owned.length co) := blk_cell h1 13
  have c10 : w.cell? ⟨g, 10, none⟩ = some (.slice Al x.l.length cl) := blk_cell h1 10
  have hne : g ≠ w.heap.size := by omega
  have hlt := hg.2
  have HB1 := Lib.hid h1
  have H2 := Lib.hid h2
  have H3 := Lib.hid h3
  clear h1 h2 h3
  have HDid := Lib.hid (fun m => sc_set (w := w) (w' := (w.alloc (.cells r.cells 51)).drewN m) (n := n) (x := x) (x' := x) H2.out H3.out h4 h5 h6 h7 ⟨_, HB1.out⟩ (blk_alloc HB1.out _) (((Kept.refl w _).alloc _).drewN _) (pw_below_drewN ((Below.refl base w).alloc hbw _) _) rfl rfl)
  unfold Rec.val Rec.cells
  cases hbeg : x.begun
  · rw [hbeg] at c11
    have HS := Lib.hid (show ownS x r = (x, 11) from if_neg (by rw [hbeg]; simp))
    clear hbeg
    go_enter Tryd.func72, Tryd.ntmps72
    go_wp2_with fail
    go_quiet (fail)
    go_wp2
    go_ret
    rw [HS.out]
    exact ⟨rfl, HDid.out _⟩
  · rw [hbeg] at c11
    by_cases h12 : x.owned.length < 12
    · have d12 : decide (12 ≤ (x.owned.length : Int)) = false := decide_eq_false (by omega)
      by_cases hmx : r.frame = 18446744073709551615
      · have dmx : (r.frame == 18446744073709551615) = true := by rw [hmx]; rfl
        have HS := Lib.hid (show ownS x r = (x, 11) from if_neg (fun h => h.2.2.1 hmx))
        clear hbeg hmx
        go_enter Tryd.func72, Tryd.ntmps72
        go_wp2_with fail
        go_quiet (fail)
        go_wp2
        go_ret
        rw [HS.out]
        exact ⟨rfl, HDid.out _⟩
      · have dmx : (r.frame == 18446744073709551615) = false := beq_eq_false_iff_ne.2 hmx
        by_cases hfl : r.frame < x.count
        · have dfl : decide (r.frame < x.count) = true := decide_eq_true hfl
          have HS := Lib.hid (show ownS x r = (x, 11) from if_neg (fun h => by have := h.2.2.2; omega))
          clear hbeg hmx hfl
          go_enter Tryd.func72, Tryd.ntmps72
          go_wp2_with fail
          go_quiet (fail)
          go_wp2
          go_ret
          rw [HS.out]
          exact ⟨rfl, HDid.out _⟩
        · have dfl : decide (r.frame < x.count) = false := decide_eq_false hfl
          have hsub : IntKind.u64.wrap (r.frame - x.count) = r.frame - x.count := IntWalk.u64_in _ ⟨by omega, by omega⟩
          have hlw : IntKind.u64.wrap (x.owned.length : Int) = (x.owned.length : Int) := IntWalk.u64_in _ ⟨by omega, by omega⟩
          by_cases hfe : r.frame = x.count + x.owned.length
          · have dfe : (r.frame - x.count != (x.owned.length : Int)) = false := by simp; omega
            have HS := Lib.hid (show ownS x r = ({ x with owned := x.owned ++ [r.own], l := x.l ++ [r] }, 0) from if_pos ⟨hbeg, h12, hmx, hfe⟩)
            clear hbeg hmx hfe hfl
            go_enter Tryd.func72, Tryd.ntmps72
            go_wp2_with fail
            go_quiet (fail)
            go_wp2_with fail
            have hvl : ∀ k, (Value.slice Al x.l.length cl).ownBlock = some k → F k ∧ k < w.heap.size := fun k e => ⟨h5 k e, (h7 k (h5 k e)).2⟩
            have hvo : ∀ k, (Value.slice Ao x.owned.length co).ownBlock = some k → F k ∧ k < w.heap.size := fun k e => ⟨h6 k e, (h7 k (h6 k e)).2⟩
            have HM1 := Lib.hid (show Mid w base g n x r (.slice Al x.l.length cl) (.slice Ao x.owned.length co) F ((w.alloc (.cells #[.int .i64 r.kind, .int .u64 r.frame, .int .u8 r.own, .int .u8 r.p0, .int .u8 r.p1, .int .u64 r.seg, .int .u64 r.first, .int .u64 r.epoch, .int .u8 r.player] 51)).drewN nq) x.l x.owned (.slice Al x.l.length cl) (.slice Ao x.owned.length co) from
              ⟨blk_alloc HB1.out _, heap_alloc_new w _, q_alloc H2.out _, q_alloc H3.out _, ((Kept.refl w _).alloc _).drewN _, pw_below_drewN ((Below.refl base w).alloc hbw _) _, fun k e => Or.inl (hvl k e), fun k e => Or.inl (hvo k e)⟩)
            clear c4 c11 c13 c10 d12 dmx dfl hsub hlw dfe
            generalize (w.alloc (.cells #[.int .i64 r.kind, .int .u64 r.frame, .int .u8 r.own, .int .u8 r.p0, .int .u8 r.p1, .int .u64 r.seg, .int .u64 r.first, .int .u64 r.epoch, .int .u8 r.player] 51)).drewN nq = w1 at HM1 ⊢
            have HMd := Lib.hid (show Mid w base g n x r (.slice Al x.l.length cl) (.slice Ao x.owned.length co) F w1.drew x.l x.owned (.slice Al x.l.length cl) (.slice Ao x.owned.length co) from ⟨HM1.out.hg, HM1.out.hr, HM1.out.ql, HM1.out.qo, HM1.out.kept, ⟨HM1.out.below.os, HM1.out.below.tape, HM1.out.below.output, HM1.out.below.size, HM1.out.below.block⟩, HM1.out.al, HM1.out.ao⟩)
            refine start_ (n := 23) (S := (fun w' => w'.cell? ⟨g, 13, none⟩ = some (.slice Ao x.owned.length co) ∧ w'.cell? ⟨g, 10, none⟩ = some (.slice Al x.l.length cl) ∧ w'.cell? ⟨w.heap.size, 0, none⟩ = some (.int .i64 r.kind) ∧ w'.cell? ⟨w.heap.size, 1, none⟩ = some (.int .u64 r.frame) ∧ w'.cell? ⟨w.heap.size, 2, none⟩ = some (.int .u8 r.own) ∧ w'.cell? ⟨w.heap.size, 3, none⟩ = some (.int .u8 r.p0) ∧ w'.cell? ⟨w.heap.size, 4, none⟩ = some (.int .u8 r.p1) ∧ w'.cell? ⟨w.heap.size, 5, none⟩ = some (.int .u64 r.seg) ∧ w'.cell? ⟨w.heap.size, 6, none⟩ = some (.int .u64 r.first) ∧ w'.cell? ⟨w.heap.size, 7, none⟩ = some (.int .u64 r.epoch) ∧ w'.cell? ⟨w.heap.size, 8, none⟩ = some (.int .u8 r.player))) (ds := [19, 22]) #[false, false, false, false, false, false, false, false, false, false, false, false, false, false, false, false, false, false, false, false, false, false, false] (by kernel_rfl) rfl rfl ⟨blk_cell (HMd.out).hg 13, blk_cell (HMd.out).hg 10, blk_cell (HMd.out).hr 0, blk_cell (HMd.out).hr 1, blk_cell (HMd.out).hr 2, blk_cell (HMd.out).hr 3, blk_cell (HMd.out).hr 4, blk_cell (HMd.out).hr 5, blk_cell (HMd.out).hr 6, blk_cell (HMd.out).hr 7, blk_cell (HMd.out).hr 8⟩ (fun hHeld => ?_)
            generalize w1.drew = wd at HMd hHeld ⊢
            refine pure_ (i := 0) (N := some 48) (v := ?_) (a' := ?_) #[true, false, false, false, false, false, false, false, false, false, false, false, false, false, false, false, false, false, false, false, false, false, false] rfl rfl (by kernel_rfl) (fun _ _ _ h => h) (Or.inl ⟨by rfl, ?_⟩) ?_ ?_
            rotate_left
            · intro w'
              go_simp
              with_reducible rfl
            rotate_left
            · simp only [Act.put, List.setIfInBounds_toArray, List.set_cons_zero, List.set_cons_succ, i64_w, i32_w]
              rfl
            refine pure_ (i := 1) (N := some 49) (v := ?_) (a' := ?_) #[true, true, false, false, false, false, false, false, false, false, false, false, false, false, false, false, false, false, false, false, false, false, false] rfl rfl (by kernel_rfl) (fun _ _ _ h => h) (Or.inl ⟨by rfl, ?_⟩) ?_ ?_
            rotate_left
            · intro w'
              go_simp
              with_reducible rfl
            rotate_left
            · simp only [Act.put, List.setIfInBounds_toArray, List.set_cons_zero, List.set_cons_succ, i64_w, i32_w]
              rfl
            refine pure_ (i := 2) (N := some 50) (v := ?_) (a' := ?_) #[true, true, true, false, false, false, false, false, false, false, false, false, false, false, false, false, false, false, false, false, false, false, false] rfl rfl (by kernel_rfl) (fun _ _ _ h => h) (Or.inl ⟨by rfl, ?_⟩) ?_ ?_
            rotate_left
            · intro w'
              go_simp
              with_reducible rfl
            rotate_left
            · simp only [Act.put, List.setIfInBounds_toArray, List.set_cons_zero, List.set_cons_succ, i64_w, i32_w]
              rfl
            refine pure_ (i := 3) (N := some 51) (v := ?_) (a' := ?_) #[true, true, true, true, false, false, false, false, false, false, false, false, false, false, false, false, false, false, false, false, false, false, false] rfl rfl (by kernel_rfl) (fun _ _ _ h => h) (Or.inl ⟨by rfl, ?_⟩) ?_ ?_
            rotate_left
            · intro w'
              go_simp
              with_reducible rfl
            rotate_left
            · simp only [Act.put, List.setIfInBounds_toArray, List.set_cons_zero, List.set_cons_succ, i64_w, i32_w]
              rfl
            refine pure_ (i := 4) (N := some 52) (v := ?_) (a' := ?_) #[true, true, true, true, true, false, false, false, false, false, false, false, false, false, false, false, false, false, false, false, false, false, false] rfl rfl (by kernel_rfl) (fun _ _ _ h => h) (Or.inl ⟨by rfl, ?_⟩) ?_ ?_
            rotate_left
            · intro w'
              go_simp
              with_reducible rfl
            rotate_left
            · simp only [Act.put, List.setIfInBounds_toArray, List.set_cons_zero, List.set_cons_succ, i64_w, i32_w]
              rfl
            refine pure_ (i := 6) (N := some 54) (v := ?_) (a' := ?_) #[true, true, true, true, true, false, true, false, false, false, false, false, false, false, false, false, false, false, false, false, false, false, false] rfl rfl (by kernel_rfl) (fun _ _ _ h => h) (Or.inl ⟨by rfl, ?_⟩) ?_ ?_
            rotate_left
            · intro w'
              go_simp
              with_reducible rfl
            rotate_left
            · simp only [Act.put, List.setIfInBounds_toArray, List.set_cons_zero, List.set_cons_succ, i64_w, i32_w]
              rfl
            refine pure_ (i := 10) (N := some 58) (v := ?_) (a' := ?_) #[true, true, true, true, true, false, true, false, false, false, true, false, false, false, false, false, false, false, false, false, false, false, false] rfl rfl (by kernel_rfl) (fun _ _ _ h => h) (Or.inl ⟨by rfl, ?_⟩) ?_ ?_
            rotate_left
            · intro w'
              go_simp
              with_reducible rfl
            rotate_left
            · simp only [Act.put, List.setIfInBounds_toArray, List.set_cons_zero, List.set_cons_succ, i64_w, i32_w]
              rfl
            refine pure_ (i := 11) (N := some 59) (v := ?_) (a' := ?_) #[true, true, true, true, true, false, true, false, false, false, true, true, false, false, false, false, false, false, false, false, false, false, false] rfl rfl (by kernel_rfl) (fun _ _ _ h => h) (Or.inl ⟨by rfl, ?_⟩) ?_ ?_
            rotate_left
            · intro w'
              go_simp
              with_reducible rfl
            rotate_left
            · simp only [Act.put, List.setIfInBounds_toArray, List.set_cons_zero, List.set_cons_succ, i64_w, i32_w]
              rfl
            refine pure_ (i := 12) (N := some 60) (v := ?_) (a' := ?_) #[true, true, true, true, true, false, true, false, false, false, true, true, true, false, false, false, false, false, false, false, false, false, false] rfl rfl (by kernel_rfl) (fun _ _ _ h => h) (Or.inl ⟨by rfl, ?_⟩) ?_ ?_
            rotate_left
            · intro w'
              go_simp
              with_reducible rfl
            rotate_left
            · simp only [Act.put, List.setIfInBounds_toArray, List.set_cons_zero, List.set_cons_succ, i64_w, i32_w]
              rfl
            refine take_ (i := 5) (N := some 53) (v := ?_) (a' := ?_) #[true, true, true, true, true, true, true, false, false, false, true, true, true, false, false, false, false, false, false, false, false, false, false] rfl rfl (by kernel_rfl) (fun _ _ _ h => h) (Or.inl ⟨by rfl, ?_⟩) hHeld ?_ ?_
            rotate_left
            · rintro w' ⟨s0, s1, s2, s3, s4, s5, s6, s7, s8, s9, s10⟩
              go_simp
              with_reducible rfl
            rotate_left
            · simp only [Act.put, List.setIfInBounds_toArray, List.set_cons_zero, List.set_cons_succ, i64_w, i32_w]
              rfl
            refine take_ (i := 7) (N := some 55) (v := ?_) (a' := ?_) #[true, true, true, true, true, true, true, true, false, false, true, true, true, false, false, false, false, false, false, false, false, false, false] rfl rfl (by kernel_rfl) (fun _ _ _ h => h) (Or.inl ⟨by rfl, ?_⟩) hHeld ?_ ?_
            rotate_left
            · rintro w' ⟨s0, s1, s2, s3, s4, s5, s6, s7, s8, s9, s10⟩
              go_simp
              with_reducible rfl
            rotate_left
            · simp only [Act.put, List.setIfInBounds_toArray, List.set_cons_zero, List.set_cons_succ, i64_w, i32_w]
              rfl
            refine take_ (i := 13) (N := some 61) (v := ?_) (a' := ?_) #[true, true, true, true, true, true, true, true, false, false, true, true, true, true, false, false, false, false, false, false, false, false, false] rfl rfl (by kernel_rfl) (fun _ _ _ h => h) (Or.inl ⟨by rfl, ?_⟩) hHeld ?_ ?_
            rotate_left
            · rintro w' ⟨s0, s1, s2, s3, s4, s5, s6, s7, s8, s9, s10⟩
              go_simp
              with_reducible rfl
            rotate_left
            · simp only [Act.put, List.setIfInBounds_toArray, List.set_cons_zero, List.set_cons_succ, i64_w, i32_w]
              rfl
            refine take_ (i := 14) (N := some 62) (v := ?_) (a' := ?_) #[true, true, true, true, true, true, true, true, false, false, true, true, true, true, true, false, false, false, false, false, false, false, false] rfl rfl (by kernel_rfl) (fun _ _ _ h => h) (Or.inl ⟨by rfl, ?_⟩) hHeld ?_ ?_
            rotate_left
            · rintro w' ⟨s0, s1, s2, s3, s4, s5, s6, s7, s8, s9, s10⟩
              go_simp
              with_reducible rfl
            rotate_left
            · simp only [Act.put, List.setIfInBounds_toArray, List.set_cons_zero, List.set_cons_succ, i64_w, i32_w]
              rfl
            refine join_ (σ := Value × (Option Addr × Nat) × Value × (Option Addr × Nat)) 6 #[true, true, true, true, true, true, true, true, true, true, true, true, true, true, true, true, true, false, false, false, false, false, false] (fun s_ => [(56, s_.1), (57, .slice s_.2.1.1 (x.owned.length + 1) s_.2.1.2), (63, s_.2.2.1), (64, .slice s_.2.2.2.1 (x.l.length + 1) s_.2.2.2.2)]) (fun s_ w' => Mid w base g n x r (.slice Al x.l.length cl) (.slice Ao x.owned.length co) F w' (x.l ++ [r]) (x.owned ++ [r.own]) (.slice s_.2.2.2.1 (x.l.length + 1) s_.2.2.2.2) (.slice s_.2.1.1 (x.owned.length + 1) s_.2.1.2)) ?_ ?_
            rotate_left
            · intro hCont
              refine two_ (i := 8) (j := 15) (Ni := some 56) (Nj := some 63) #[true, true, true, true, true, true, true, true, true, false, true, true, true, true, true, false, false, false, false, false, false, false, false] #[true, true, true, true, true, true, true, true, false, false, true, true, true, true, true, true, false, false, false, false, false, false, false] rfl rfl rfl rfl (by kernel_rfl) (by decide) (by decide) (fun K hK => ?_) (fun K hK => ?_)
              · refine value_ (w1 := ?_) (v := ?_) (by rfl) rfl ?_ ?_
                rotate_left 2
                · go_simp
                  constructor
                  · rfl
                  · rfl
                refine hK.out _ _ ⟨blk_cell (mid_alloc (HMd.out) hbw _).hg 13, blk_cell (mid_alloc (HMd.out) hbw _).hg 10, blk_cell (mid_alloc (HMd.out) hbw _).hr 0, blk_cell (mid_alloc (HMd.out) hbw _).hr 1, blk_cell (mid_alloc (HMd.out) hbw _).hr 2, blk_cell (mid_alloc (HMd.out) hbw _).hr 3, blk_cell (mid_alloc (HMd.out) hbw _).hr 4, blk_cell (mid_alloc (HMd.out) hbw _).hr 5, blk_cell (mid_alloc (HMd.out) hbw _).hr 6, blk_cell (mid_alloc (HMd.out) hbw _).hr 7, blk_cell (mid_alloc (HMd.out) hbw _).hr 8⟩ (fun hHeld => ?_)
                clear hK K
                refine norm_ (a' := ?_) ?_ ?_
                rotate_left
                · show Act.put _ (some 56) _ = _
                  simp only [Act.put, List.setIfInBounds_toArray, List.set_cons_zero, List.set_cons_succ, i64_w, i32_w]
                  rfl
                refine two_ (i := 9) (j := 15) (Ni := some 57) (Nj := some 63) #[true, true, true, true, true, true, true, true, true, true, true, true, true, true, true, false, false, false, false, false, false, false, false] #[true, true, true, true, true, true, true, true, true, false, true, true, true, true, true, true, false, false, false, false, false, false, false] rfl rfl rfl rfl (by kernel_rfl) (by decide) (by decide) (fun K hK => ?_) (fun K hK => ?_)
                · refine q_app_step base (by rfl) (.tmp 53) (.tmp 56) 70 47 (.int .u8 0) 1 1 (by rfl) Tryd.underlying70 info47 rfl (by decide) (by decide) (.slice Ao x.owned.length co) x.owned.length (nums .u8 x.owned) ⟨wd.heap.size, 0, none⟩ 1 1 [.int .u8 r.own] (by rfl) (by rfl) (by decide) rfl ?hn (by intro u hu; simp at hu; subst hu; rfl) ?hq ?hbase (by omega) ?_
                  case hn => exact news_blk (heap_alloc_new wd _)
                  case hq => exact (mid_alloc (HMd.out) hbw _).qo
                  case hbase => exact mid_base (mid_alloc (HMd.out) hbw _) hbw
                  intro v_ w2 hq hgr hat
                  obtain ⟨AO, cO, hv_, _⟩ := q_slice hq
                  subst hv_
                  have HM2 := Lib.hid (mid_appO (mid_alloc (HMd.out) hbw _) hvo hbw r.own hq hgr hat)
                  have HFar2 := Lib.hid (fun k o (hk : w.heap.size ≤ k) hb => mid_far (mid_alloc (HMd.out) hbw _) hvo hgr (k := k) (o := o) hk hb)
                  clear hq hgr hat
                  refine hK.out _ _ ⟨blk_cell (HM2.out).hg 13, blk_cell (HM2.out).hg 10, blk_cell (HM2.out).hr 0, blk_cell (HM2.out).hr 1, blk_cell (HM2.out).hr 2, blk_cell (HM2.out).hr 3, blk_cell (HM2.out).hr 4, blk_cell (HM2.out).hr 5, blk_cell (HM2.out).hr 6, blk_cell (HM2.out).hr 7, blk_cell (HM2.out).hr 8⟩ (fun hHeld => ?_)
                  clear hK K
                  refine norm_ (a' := ?_) ?_ ?_
                  rotate_left
                  · show Act.put _ (some 57) _ = _
                    simp only [Act.put, List.setIfInBounds_toArray, List.set_cons_zero, List.set_cons_succ, i64_w, i32_w]
                    rfl
                  refine one_ (i := 15) (N := some 63) #[true, true, true, true, true, true, true, true, true, true, true, true, true, true, true, true, false, false, false, false, false, false, false] rfl rfl (by kernel_rfl) (by decide) (fun K hK => ?_)
                  refine value_ (w1 := ?_) (v := ?_) (by rfl) rfl ?_ ?_
                  rotate_left 2
                  · go_simp
                    constructor
                    · rfl
                    · rfl
                  refine hK.out _ _ ⟨blk_cell (mid_alloc (HM2.out) hbw _).hg 13, blk_cell (mid_alloc (HM2.out) hbw _).hg 10, blk_cell (mid_alloc (HM2.out) hbw _).hr 0, blk_cell (mid_alloc (HM2.out) hbw _).hr 1, blk_cell (mid_alloc (HM2.out) hbw _).hr 2, blk_cell (mid_alloc (HM2.out) hbw _).hr 3, blk_cell (mid_alloc (HM2.out) hbw _).hr 4, blk_cell (mid_alloc (HM2.out) hbw _).hr 5, blk_cell (mid_alloc (HM2.out) hbw _).hr 6, blk_cell (mid_alloc (HM2.out) hbw _).hr 7, blk_cell (mid_alloc (HM2.out) hbw _).hr 8⟩ (fun hHeld => ?_)
                  clear hK K
                  refine norm_ (a' := ?_) ?_ ?_
                  rotate_left
                  · show Act.put _ (some 63) _ = _
                    simp only [Act.put, List.setIfInBounds_toArray, List.set_cons_zero, List.set_cons_succ, i64_w, i32_w]
                    rfl
                  refine one_ (i := 16) (N := some 64) #[true, true, true, true, true, true, true, true, true, true, true, true, true, true, true, true, true, false, false, false, false, false, false] rfl rfl (by kernel_rfl) (by decide) (fun K hK => ?_)
                  refine q_app_step base (by rfl) (.tmp 61) (.tmp 63) 52 51 Rec.zero.val 9 56 (by rfl) Tryd.underlying52 info51b rfl (by decide) (by decide) (.slice Al x.l.length cl) x.l.length (flatR x.l) ⟨w2.heap.size, 0, none⟩ 1 1 r.cells.toList (by rfl) (by rfl) (by decide) rfl ?hn (by intro u hu; exact (Array.all_eq_true_iff_forall_mem.1 r.ones) u (by simpa using hu)) ?hq ?hbase (by omega) ?_
                  case hn => exact news_blk (heap_alloc_new w2 _)
                  case hq => exact (mid_alloc (HM2.out) hbw _).ql
                  case hbase => exact mid_base (mid_alloc (HM2.out) hbw _) hbw
                  intro v_ w3 hq hgr hat
                  obtain ⟨AL, cL, hv_, _⟩ := q_slice hq
                  subst hv_
                  have HM3 := Lib.hid (mid_appL (mid_alloc (HM2.out) hbw _) hvl hbw r hq hgr hat)
                  have HFar3 := Lib.hid (fun k o (hk : w.heap.size ≤ k) hb => mid_far (mid_alloc (HM2.out) hbw _) hvl hgr (k := k) (o := o) hk hb)
                  clear hq hgr hat
                  refine hK.out _ _ ⟨blk_cell (HM3.out).hg 13, blk_cell (HM3.out).hg 10, blk_cell (HM3.out).hr 0, blk_cell (HM3.out).hr 1, blk_cell (HM3.out).hr 2, blk_cell (HM3.out).hr 3, blk_cell (HM3.out).hr 4, blk_cell (HM3.out).hr 5, blk_cell (HM3.out).hr 6, blk_cell (HM3.out).hr 7, blk_cell (HM3.out).hr 8⟩ (fun hHeld => ?_)
                  clear hK K
                  refine norm_ (a' := ?_) ?_ ?_
                  rotate_left
                  · show Act.put _ (some 64) _ = _
                    simp only [Act.put, List.setIfInBounds_toArray, List.set_cons_zero, List.set_cons_succ, i64_w, i32_w]
                    rfl
                  exact hCont (_, (AO, cO), _, (AL, cL)) _ HM3.out
                · refine value_ (w1 := ?_) (v := ?_) (by rfl) rfl ?_ ?_
                  rotate_left 2
                  · go_simp
                    constructor
                    · rfl
                    · rfl
                  refine hK.out _ _ ⟨blk_cell (mid_alloc (mid_alloc (HMd.out) hbw _) hbw _).hg 13, blk_cell (mid_alloc (mid_alloc (HMd.out) hbw _) hbw _).hg 10, blk_cell (mid_alloc (mid_alloc (HMd.out) hbw _) hbw _).hr 0, blk_cell (mid_alloc (mid_alloc (HMd.out) hbw _) hbw _).hr 1, blk_cell (mid_alloc (mid_alloc (HMd.out) hbw _) hbw _).hr 2, blk_cell (mid_alloc (mid_alloc (HMd.out) hbw _) hbw _).hr 3, blk_cell (mid_alloc (mid_alloc (HMd.out) hbw _) hbw _).hr 4, blk_cell (mid_alloc (mid_alloc (HMd.out) hbw _) hbw _).hr 5, blk_cell (mid_alloc (mid_alloc (HMd.out) hbw _) hbw _).hr 6, blk_cell (mid_alloc (mid_alloc (HMd.out) hbw _) hbw _).hr 7, blk_cell (mid_alloc (mid_alloc (HMd.out) hbw _) hbw _).hr 8⟩ (fun hHeld => ?_)
                  clear hK K
                  refine norm_ (a' := ?_) ?_ ?_
                  rotate_left
                  · show Act.put _ (some 63) _ = _
                    simp only [Act.put, List.setIfInBounds_toArray, List.set_cons_zero, List.set_cons_succ, i64_w, i32_w]
                    rfl
                  refine one_ (i := 9) (N := some 57) #[true, true, true, true, true, true, true, true, true, true, true, true, true, true, true, true, false, false, false, false, false, false, false] rfl rfl (by kernel_rfl) (by decide) (fun K hK => ?_)
                  refine q_app_step base (by rfl) (.tmp 53) (.tmp 56) 70 47 (.int .u8 0) 1 1 (by rfl) Tryd.underlying70 info47 rfl (by decide) (by decide) (.slice Ao x.owned.length co) x.owned.length (nums .u8 x.owned) ⟨wd.heap.size, 0, none⟩ 1 1 [.int .u8 r.own] (by rfl) (by rfl) (by decide) rfl ?hn (by intro u hu; simp at hu; subst hu; rfl) ?hq ?hbase (by omega) ?_
                  case hn => exact news_blk (blk_alloc (heap_alloc_new wd _) _)
                  case hq => exact (mid_alloc (mid_alloc (HMd.out) hbw _) hbw _).qo
                  case hbase => exact mid_base (mid_alloc (mid_alloc (HMd.out) hbw _) hbw _) hbw
                  intro v_ w2 hq hgr hat
                  obtain ⟨AO, cO, hv_, _⟩ := q_slice hq
                  subst hv_
                  have HM2 := Lib.hid (mid_appO (mid_alloc (mid_alloc (HMd.out) hbw _) hbw _) hvo hbw r.own hq hgr hat)
                  have HFar2 := Lib.hid (fun k o (hk : w.heap.size ≤ k) hb => mid_far (mid_alloc (mid_alloc (HMd.out) hbw _) hbw _) hvo hgr (k := k) (o := o) hk hb)
                  clear hq hgr hat
                  refine hK.out _ _ ⟨blk_cell (HM2.out).hg 13, blk_cell (HM2.out).hg 10, blk_cell (HM2.out).hr 0, blk_cell (HM2.out).hr 1, blk_cell (HM2.out).hr 2, blk_cell (HM2.out).hr 3, blk_cell (HM2.out).hr 4, blk_cell (HM2.out).hr 5, blk_cell (HM2.out).hr 6, blk_cell (HM2.out).hr 7, blk_cell (HM2.out).hr 8⟩ (fun hHeld => ?_)
                  clear hK K
                  refine norm_ (a' := ?_) ?_ ?_
                  rotate_left
                  · show Act.put _ (some 57) _ = _
                    simp only [Act.put, List.setIfInBounds_toArray, List.set_cons_zero, List.set_cons_succ, i64_w, i32_w]
                    rfl
                  refine one_ (i := 16) (N := some 64) #[true, true, true, true, true, true, true, true, true, true, true, true, true, true, true, true, true, false, false, false, false, false, false] rfl rfl (by kernel_rfl) (by decide) (fun K hK => ?_)
                  refine q_app_step base (by rfl) (.tmp 61) (.tmp 63) 52 51 Rec.zero.val 9 56 (by rfl) Tryd.underlying52 info51b rfl (by decide) (by decide) (.slice Al x.l.length cl) x.l.length (flatR x.l) ⟨wd.heap.size + 1, 0, none⟩ 1 1 r.cells.toList (by rfl) (by rfl) (by decide) rfl ?hn (by intro u hu; exact (Array.all_eq_true_iff_forall_mem.1 r.ones) u (by simpa using hu)) ?hq ?hbase (by omega) ?_
                  case hn => exact news_blk (HFar2.out _ _ (by have := mid_lt HMd.out; omega) (blk_alloc2 wd _ _))
                  case hq => exact (HM2.out).ql
                  case hbase => exact mid_base (HM2.out) hbw
                  intro v_ w3 hq hgr hat
                  obtain ⟨AL, cL, hv_, _⟩ := q_slice hq
                  subst hv_
                  have HM3 := Lib.hid (mid_appL (HM2.out) hvl hbw r hq hgr hat)
                  have HFar3 := Lib.hid (fun k o (hk : w.heap.size ≤ k) hb => mid_far (HM2.out) hvl hgr (k := k) (o := o) hk hb)
                  clear hq hgr hat
                  refine hK.out _ _ ⟨blk_cell (HM3.out).hg 13, blk_cell (HM3.out).hg 10, blk_cell (HM3.out).hr 0, blk_cell (HM3.out).hr 1, blk_cell (HM3.out).hr 2, blk_cell (HM3.out).hr 3, blk_cell (HM3.out).hr 4, blk_cell (HM3.out).hr 5, blk_cell (HM3.out).hr 6, blk_cell (HM3.out).hr 7, blk_cell (HM3.out).hr 8⟩ (fun hHeld => ?_)
                  clear hK K
                  refine norm_ (a' := ?_) ?_ ?_
                  rotate_left
                  · show Act.put _ (some 64) _ = _
                    simp only [Act.put, List.setIfInBounds_toArray, List.set_cons_zero, List.set_cons_succ, i64_w, i32_w]
                    rfl
                  exact hCont (_, (AO, cO), _, (AL, cL)) _ HM3.out
              · refine value_ (w1 := ?_) (v := ?_) (by rfl) rfl ?_ ?_
                rotate_left 2
                · go_simp
                  constructor
                  · rfl
                  · rfl
                refine hK.out _ _ ⟨blk_cell (mid_alloc (HMd.out) hbw _).hg 13, blk_cell (mid_alloc (HMd.out) hbw _).hg 10, blk_cell (mid_alloc (HMd.out) hbw _).hr 0, blk_cell (mid_alloc (HMd.out) hbw _).hr 1, blk_cell (mid_alloc (HMd.out) hbw _).hr 2, blk_cell (mid_alloc (HMd.out) hbw _).hr 3, blk_cell (mid_alloc (HMd.out) hbw _).hr 4, blk_cell (mid_alloc (HMd.out) hbw _).hr 5, blk_cell (mid_alloc (HMd.out) hbw _).hr 6, blk_cell (mid_alloc (HMd.out) hbw _).hr 7, blk_cell (mid_alloc (HMd.out) hbw _).hr 8⟩ (fun hHeld => ?_)
                clear hK K
                refine norm_ (a' := ?_) ?_ ?_
                rotate_left
                · show Act.put _ (some 63) _ = _
                  simp only [Act.put, List.setIfInBounds_toArray, List.set_cons_zero, List.set_cons_succ, i64_w, i32_w]
                  rfl
                refine one_ (i := 8) (N := some 56) #[true, true, true, true, true, true, true, true, true, false, true, true, true, true, true, true, false, false, false, false, false, false, false] rfl rfl (by kernel_rfl) (by decide) (fun K hK => ?_)
                refine value_ (w1 := ?_) (v := ?_) (by rfl) rfl ?_ ?_
                rotate_left 2
                · go_simp
                  constructor
                  · rfl
                  · rfl
                refine hK.out _ _ ⟨blk_cell (mid_alloc (mid_alloc (HMd.out) hbw _) hbw _).hg 13, blk_cell (mid_alloc (mid_alloc (HMd.out) hbw _) hbw _).hg 10, blk_cell (mid_alloc (mid_alloc (HMd.out) hbw _) hbw _).hr 0, blk_cell (mid_alloc (mid_alloc (HMd.out) hbw _) hbw _).hr 1, blk_cell (mid_alloc (mid_alloc (HMd.out) hbw _) hbw _).hr 2, blk_cell (mid_alloc (mid_alloc (HMd.out) hbw _) hbw _).hr 3, blk_cell (mid_alloc (mid_alloc (HMd.out) hbw _) hbw _).hr 4, blk_cell (mid_alloc (mid_alloc (HMd.out) hbw _) hbw _).hr 5, blk_cell (mid_alloc (mid_alloc (HMd.out) hbw _) hbw _).hr 6, blk_cell (mid_alloc (mid_alloc (HMd.out) hbw _) hbw _).hr 7, blk_cell (mid_alloc (mid_alloc (HMd.out) hbw _) hbw _).hr 8⟩ (fun hHeld => ?_)
                clear hK K
                refine norm_ (a' := ?_) ?_ ?_
                rotate_left
                · show Act.put _ (some 56) _ = _
                  simp only [Act.put, List.setIfInBounds_toArray, List.set_cons_zero, List.set_cons_succ, i64_w, i32_w]
                  rfl
                refine one_ (i := 9) (N := some 57) #[true, true, true, true, true, true, true, true, true, true, true, true, true, true, true, true, false, false, false, false, false, false, false] rfl rfl (by kernel_rfl) (by decide) (fun K hK => ?_)
                refine q_app_step base (by rfl) (.tmp 53) (.tmp 56) 70 47 (.int .u8 0) 1 1 (by rfl) Tryd.underlying70 info47 rfl (by decide) (by decide) (.slice Ao x.owned.length co) x.owned.length (nums .u8 x.owned) ⟨wd.heap.size + 1, 0, none⟩ 1 1 [.int .u8 r.own] (by rfl) (by rfl) (by decide) rfl ?hn (by intro u hu; simp at hu; subst hu; rfl) ?hq ?hbase (by omega) ?_
                case hn => exact news_blk (blk_alloc2 wd _ _)
                case hq => exact (mid_alloc (mid_alloc (HMd.out) hbw _) hbw _).qo
                case hbase => exact mid_base (mid_alloc (mid_alloc (HMd.out) hbw _) hbw _) hbw
                intro v_ w2 hq hgr hat
                obtain ⟨AO, cO, hv_, _⟩ := q_slice hq
                subst hv_
                have HM2 := Lib.hid (mid_appO (mid_alloc (mid_alloc (HMd.out) hbw _) hbw _) hvo hbw r.own hq hgr hat)
                have HFar2 := Lib.hid (fun k o (hk : w.heap.size ≤ k) hb => mid_far (mid_alloc (mid_alloc (HMd.out) hbw _) hbw _) hvo hgr (k := k) (o := o) hk hb)
                clear hq hgr hat
                refine hK.out _ _ ⟨blk_cell (HM2.out).hg 13, blk_cell (HM2.out).hg 10, blk_cell (HM2.out).hr 0, blk_cell (HM2.out).hr 1, blk_cell (HM2.out).hr 2, blk_cell (HM2.out).hr 3, blk_cell (HM2.out).hr 4, blk_cell (HM2.out).hr 5, blk_cell (HM2.out).hr 6, blk_cell (HM2.out).hr 7, blk_cell (HM2.out).hr 8⟩ (fun hHeld => ?_)
                clear hK K
                refine norm_ (a' := ?_) ?_ ?_
                rotate_left
                · show Act.put _ (some 57) _ = _
                  simp only [Act.put, List.setIfInBounds_toArray, List.set_cons_zero, List.set_cons_succ, i64_w, i32_w]
                  rfl
                refine one_ (i := 16) (N := some 64) #[true, true, true, true, true, true, true, true, true, true, true, true, true, true, true, true, true, false, false, false, false, false, false] rfl rfl (by kernel_rfl) (by decide) (fun K hK => ?_)
                refine q_app_step base (by rfl) (.tmp 61) (.tmp 63) 52 51 Rec.zero.val 9 56 (by rfl) Tryd.underlying52 info51b rfl (by decide) (by decide) (.slice Al x.l.length cl) x.l.length (flatR x.l) ⟨wd.heap.size, 0, none⟩ 1 1 r.cells.toList (by rfl) (by rfl) (by decide) rfl ?hn (by intro u hu; exact (Array.all_eq_true_iff_forall_mem.1 r.ones) u (by simpa using hu)) ?hq ?hbase (by omega) ?_
                case hn => exact news_blk (HFar2.out _ _ (by have := mid_lt HMd.out; omega) (blk_alloc (heap_alloc_new wd _) _))
                case hq => exact (HM2.out).ql
                case hbase => exact mid_base (HM2.out) hbw
                intro v_ w3 hq hgr hat
                obtain ⟨AL, cL, hv_, _⟩ := q_slice hq
                subst hv_
                have HM3 := Lib.hid (mid_appL (HM2.out) hvl hbw r hq hgr hat)
                have HFar3 := Lib.hid (fun k o (hk : w.heap.size ≤ k) hb => mid_far (HM2.out) hvl hgr (k := k) (o := o) hk hb)
                clear hq hgr hat
                refine hK.out _ _ ⟨blk_cell (HM3.out).hg 13, blk_cell (HM3.out).hg 10, blk_cell (HM3.out).hr 0, blk_cell (HM3.out).hr 1, blk_cell (HM3.out).hr 2, blk_cell (HM3.out).hr 3, blk_cell (HM3.out).hr 4, blk_cell (HM3.out).hr 5, blk_cell (HM3.out).hr 6, blk_cell (HM3.out).hr 7, blk_cell (HM3.out).hr 8⟩ (fun hHeld => ?_)
                clear hK K
                refine norm_ (a' := ?_) ?_ ?_
                rotate_left
                · show Act.put _ (some 64) _ = _
                  simp only [Act.put, List.setIfInBounds_toArray, List.set_cons_zero, List.set_cons_succ, i64_w, i32_w]
                  rfl
                exact hCont (_, (AO, cO), _, (AL, cL)) _ HM3.out
            rintro ⟨v56, ⟨AO, cO⟩, v63, ⟨AL, cL⟩⟩ w3 hM3
            have HM3 := Lib.hid hM3
            clear hM3
            simp only [putAll]
            refine norm_ (a' := ?_) ?_ ?_
            rotate_left
            · simp only [Act.put, List.setIfInBounds_toArray, List.set_cons_zero, List.set_cons_succ, i64_w, i32_w]
              rfl
            refine pure_ (i := 17) (N := some 65) (v := ?_) (a' := ?_) #[true, true, true, true, true, true, true, true, true, true, true, true, true, true, true, true, true, true, false, false, false, false, false] rfl rfl (by kernel_rfl) (fun _ _ _ h => h) (Or.inl ⟨by rfl, ?_⟩) ?_ ?_
            rotate_left
            · intro w'
              go_simp
              with_reducible rfl
            rotate_left
            · simp only [Act.put, List.setIfInBounds_toArray, List.set_cons_zero, List.set_cons_succ, i64_w, i32_w]
              rfl
            refine pure_ (i := 18) (N := some 66) (v := ?_) (a' := ?_) #[true, true, true, true, true, true, true, true, true, true, true, true, true, true, true, true, true, true, true, false, false, false, false] rfl rfl (by kernel_rfl) (fun _ _ _ h => h) (Or.inl ⟨by rfl, ?_⟩) ?_ ?_
            rotate_left
            · intro w'
              go_simp
              with_reducible rfl
            rotate_left
            · simp only [Act.put, List.setIfInBounds_toArray, List.set_cons_zero, List.set_cons_succ, i64_w, i32_w]
              rfl
            refine last_ (i := 19) (N := none) #[true, true, true, true, true, true, true, true, true, true, true, true, true, true, true, true, true, true, true, true, false, false, false] rfl rfl (by kernel_rfl) (by decide) (fun K hK => ?_)
            have t13 : w3.cell? ⟨g, 13, none⟩ = some (.slice Ao x.owned.length co) := blk_cell HM3.out.hg 13
            have z13 := blk_frozen HM3.out.hg 13
            refine skip_ (w1 := ?_) (by rfl) rfl ?_ ?_
            rotate_left
            · go_simp
              rfl
            refine hK.out _ _ ?_
            clear hK K
            refine pure_ (i := 20) (N := some 67) (v := ?_) (a' := ?_) #[true, true, true, true, true, true, true, true, true, true, true, true, true, true, true, true, true, true, true, true, true, false, false] rfl rfl (by kernel_rfl) (fun _ _ _ h => h) (Or.inl ⟨by rfl, ?_⟩) ?_ ?_
            rotate_left
            · intro w'
              go_simp
              with_reducible rfl
            rotate_left
            · simp only [Act.put, List.setIfInBounds_toArray, List.set_cons_zero, List.set_cons_succ, i64_w, i32_w]
              rfl
            refine pure_ (i := 21) (N := some 68) (v := ?_) (a' := ?_) #[true, true, true, true, true, true, true, true, true, true, true, true, true, true, true, true, true, true, true, true, true, true, false] rfl rfl (by kernel_rfl) (fun _ _ _ h => h) (Or.inl ⟨by rfl, ?_⟩) ?_ ?_
            rotate_left
            · intro w'
              go_simp
              with_reducible rfl
            rotate_left
            · simp only [Act.put, List.setIfInBounds_toArray, List.set_cons_zero, List.set_cons_succ, i64_w, i32_w]
              rfl
            refine last_ (i := 22) (N := none) #[true, true, true, true, true, true, true, true, true, true, true, true, true, true, true, true, true, true, true, true, true, true, true] rfl rfl (by kernel_rfl) (by decide) (fun K hK => ?_)
            have t10 : (w3.setCell ⟨g, 13, none⟩ (.slice AO (x.owned.length + 1) cO)).cell? ⟨g, 10, none⟩ = some (.slice Al x.l.length cl) := (blk_cell (blk_set HM3.out.hg 13 _) 10).trans rfl
            have z10 := blk_frozen (blk_set HM3.out.hg 13 (.slice AO (x.owned.length + 1) cO)) 10
            refine skip_ (w1 := ?_) (by rfl) rfl ?_ ?_
            rotate_left
            · go_simp
              rfl
            refine hK.out _ _ ?_
            clear hK K
            refine done_ (by kernel_rfl) ?_
            go_wp2
            go_ret
            rw [HS.out]
            refine ⟨rfl, mid_end HM3.out h4 h7 hbw (x' := { x with owned := x.owned ++ [r.own], l := x.l ++ [r] }) (blk_set (blk_set HM3.out.hg 13 _) 10 _) ?_ ?_ rfl rfl⟩
            · exact Kept.setCell (S := fun i => i = g) (Kept.setCell (S := fun i => i = g) (Kept.refl _ _) (Or.inl rfl) _) (Or.inl rfl) _
            · exact ((Below.refl base _).setCell hg.1 _).setCell hg.1 _
          · have dfe : (r.frame - x.count != (x.owned.length : Int)) = true := by simp; omega
            have HS := Lib.hid (show ownS x r = (x, 11) from if_neg (fun h => hfe h.2.2.2))
            clear hbeg hmx hfe hfl
            go_enter Tryd.func72, Tryd.ntmps72
            go_wp2_with fail
            go_quiet (fail)
            go_wp2
            go_ret
            rw [HS.out]
            exact ⟨rfl, HDid.out _⟩
    · have d12 : decide (12 ≤ (x.owned.length : Int)) = true := decide_eq_true (by omega)
      have HS := Lib.hid (show ownS x r = (x, 11) from if_neg (fun h => h12 h.2.1))
      clear hbeg
      go_enter Tryd.func72, Tryd.ntmps72
      go_wp2_with fail
      go_quiet (fail)
      go_wp2
      go_ret
      rw [HS.out]
      exact ⟨rfl, HDid.out _⟩
end Go.Proofs.YtnhjhaphfdlkfaaDoor.Sg
/- The scanner's sure. -/
set_option linter.unusedVariables false
set_option linter.unusedSimpArgs false
namespace Go.Proofs.YtnhjhaphfdlkfaaDoor.Sg
open Go.RowKit Go.Proofs.YtnhjhaphfdlkfaaDoor.HF Go.Proofs.YtnhjhaphfdlkfaaDoor.SB Go.Proofs.YtnhjhaphfdlkfaaDoorW.PrintWords Go.Proofs.YtnhjhaphfdlkfaaDoorW.PrintLast Go.Proofs.YtnhjhaphfdlkfaaDoorW.PrintMore
theorem mid_dropO {w w' : World} {base g : Nat} {n : Int} {x : Sc} {r : Rec} {vl vo vl' : Value} {F : Nat → Prop} {L : List Rec} {o : Int} {os : List Int} {bo fo co : Nat} {po : Option Nat} (h : Mid w base g n x r vl vo F w' L (o :: os) vl' (.slice (some ⟨bo, fo, po⟩) (os.length + 1) co)) : Mid w base g n x r vl vo F w' L os vl' (.slice (if co = 1 then some ⟨bo, fo, po⟩ else some ⟨bo, fo + 1, none⟩) os.length (co - 1)) :=
  ⟨h.hg, h.hr, h.ql, q_drop (k := 1) h.qo (by simp), h.kept, h.below, h.al, fun k e => h.ao k (by split at e <;> exact e)⟩
theorem mid_dropO1 {w w' : World} {base g : Nat} {n : Int} {x : Sc} {r : Rec} {vl vo vl' : Value} {F : Nat → Prop} {L : List Rec} {o : Int} {os : List Int} {bo fo co : Nat} {po : Option Nat} (hc : co = 1) (h : Mid w base g n x r vl vo F w' L (o :: os) vl' (.slice (some ⟨bo, fo, po⟩) (os.length + 1) co)) : Mid w base g n x r vl vo F w' L os vl' (.slice (some ⟨bo, fo, po⟩) os.length 0) := by
  have := mid_dropO h
  rw [if_pos hc, hc] at this
  exact this
theorem mid_dropO2 {w w' : World} {base g : Nat} {n : Int} {x : Sc} {r : Rec} {vl vo vl' : Value} {F : Nat → Prop} {L : List Rec} {o : Int} {os : List Int} {bo fo co : Nat} {po : Option Nat} (hc : ¬ co = 1) (h : Mid w base g n x r vl vo F w' L (o :: os) vl' (.slice (some ⟨bo, fo, po⟩) (os.length + 1) co)) : Mid w base g n x r vl vo F w' L os vl' (.slice (some ⟨bo, fo + 1, none⟩) os.length (co - 1)) := by
  have := mid_dropO h
  rw [if_neg hc] at this
  exact this
/-- Of a record's pair, one. -/
def Rec.pair (r : Rec) (i : Int) : Int := if i = 0 then r.p0 else r.p1
def sureS (x : Sc) (r : Rec) : Sc × Int := match x.owned with
  | [] => (x, 11)
  | o :: os => if x.begun = true ∧ r.frame = x.count then if r.pair x.head.player = o then ({ x with count := x.count + 1, owned := os, l := x.l ++ [r] }, 0) else (x, 14) else (x, 11)
set_option maxHeartbeats 4000000 in
set_option maxRecDepth 100000 in
theorem sure_calls (w : World) (base g : Nat) (n : Int) (x : Sc) (F : Nat → Prop) (h : IsSc w base g n x F) (hbw : base ≤ w.heap.size) (r : Rec) (hc : 0 ≤ x.count ∧ x.count + x.owned.length < 18446744073709551616) (hll : x.l.length ≤ 100000) (hp : x.head.player = 0 ∨ x.head.player = 1) :
    Calls Tryd.prog 74 #[.pointer (some ⟨g, 0, none⟩), r.val] w fun e w' => e = .returned (.int .i64 (sureS x r).2) ∧ DidSc w w' base g n (sureS x r).1 F := by
  obtain ⟨vl, vo, h1, h2, h3, h4, h5, h6, h7⟩ := h
  have hg := h7 g h4
  have c4 : w.cell? ⟨g, 12, none⟩ = some (.int .u64 x.count) := blk_cell h1 12
  have c11 : w.cell? ⟨g, 11, none⟩ = some (.bool x.begun) := blk_cell h1 11
  have c9 : w.cell? ⟨g, 9, none⟩ = some (.int .u8 x.head.player) := blk_cell h1 9
  obtain ⟨Ao, co, rfl, hoc⟩ := q_slice h3
  obtain ⟨Al, cl, rfl, hlc⟩ := q_slice h2
  have c13 : w.cell? ⟨g, 13, none⟩ = some (.slice Ao x.owned.length co) := blk_cell h1 13
  have c10 : w.cell? ⟨g, 10, none⟩ = some (.slice Al x.l.length cl) := blk_cell h1 10
  have hne : g ≠ w.heap.size := by omega
  have hlt := hg.2
  have HB1 := Lib.hid h1
  have H2 := Lib.hid h2
  have H3 := Lib.hid h3
  clear h1 h2 h3
  have HDid := Lib.hid (fun m => sc_set (w := w) (w' := (w.alloc (.cells r.cells 51)).drewN m) (n := n) (x := x) (x' := x) H2.out H3.out h4 h5 h6 h7 ⟨_, HB1.out⟩ (blk_alloc HB1.out _) (((Kept.refl w _).alloc _).drewN _) (pw_below_drewN ((Below.refl base w).alloc hbw _) _) rfl rfl)
  have HDid2 := Lib.hid (fun m k => sc_set (w := w) (w' := ((w.alloc (.cells r.cells 51)).drewN m).drewN k) (n := n) (x := x) (x' := x) H2.out H3.out h4 h5 h6 h7 ⟨_, HB1.out⟩ (blk_alloc HB1.out _) ((((Kept.refl w _).alloc _).drewN _).drewN _) (pw_below_drewN (pw_below_drewN ((Below.refl base w).alloc hbw _) _) _) rfl rfl)
  unfold Rec.val Rec.cells
  cases hbeg : x.begun
  · rw [hbeg] at c11
    have HS := Lib.hid (show sureS x r = (x, 11) by unfold sureS; split; rfl; exact if_neg (by rw [hbeg]; simp))
    clear hbeg
    go_enter Tryd.func74, Tryd.ntmps74
    go_wp2_with fail
    go_quiet (fail)
    go_wp2
    go_ret
    rw [HS.out]
    exact ⟨rfl, HDid.out _⟩
  · rw [hbeg] at c11
    by_cases hfr : r.frame = x.count
    · have dfr : (r.frame != x.count) = false := by simp [hfr]
      cases hown : x.owned with
      | nil =>
        rw [hown] at c13
        have c13' : w.cell? ⟨g, 13, none⟩ = some (.slice Ao 0 co) := c13
        clear c13
        have HS := Lib.hid (show sureS x r = (x, 11) by unfold sureS; rw [hown])
        clear hbeg hfr hown
        go_enter Tryd.func74, Tryd.ntmps74
        go_wp2_with fail
        go_quiet (fail)
        go_wp2
        go_ret
        rw [HS.out]
        exact ⟨rfl, HDid.out _⟩
      | cons o os =>
        have hol : x.owned.length = os.length + 1 := by rw [hown]; rfl
        have d0 : (((os.length + 1 : Nat) : Int) == 0) = false := beq_eq_false_iff_ne.2 (by omega)
        have hcnt : IntKind.u64.wrap (x.count + 1) = x.count + 1 := IntWalk.u64_in _ ⟨by omega, by omega⟩
        obtain ⟨⟨bo, fo, po⟩, rfl, hco⟩ := q_cells H3.out (by omega)
        have co0 : w.cell? ⟨bo, fo, po⟩ = some (.int .u8 o) := hco 0 _ (by rw [hown]; rfl)
        clear hco
        have hbo := q_lt H3.out bo rfl
        have hneo : bo ≠ w.heap.size := by omega
        have HB2 := Lib.hid (show w.heap[g]? = some (.cells (scCells n x (.slice Al x.l.length cl) (.slice (some ⟨bo, fo, po⟩) (os.length + 1) co)) 102 (0, 0)) by have := HB1.out; rw [hol] at this; exact this)
        have H3o := Lib.hid (show QRow w base 47 1 (.slice (some ⟨bo, fo, po⟩) (os.length + 1) co) (o :: os).length (nums .u8 (o :: os)) by have := H3.out; rw [hown] at this; exact this)
        have hgl : ∀ k, (Value.slice Al x.l.length cl).ownBlock = some k → k ≠ g := fun k e hkg => by
          subst hkg
          obtain ⟨_, cells, hc⟩ := q_typed H2.out k e
          rw [HB1.out] at hc; simp at hc
        have hgo : ∀ k, (Value.slice (some ⟨bo, fo, po⟩) (os.length + 1) co).ownBlock = some k → k ≠ g := fun k e hkg => by
          subst hkg
          obtain ⟨_, cells, hc⟩ := q_typed H3o.out k e
          rw [HB1.out] at hc; simp at hc
        have d1 : (1 : Int) ≤ (os.length : Int) + 1 := by omega
        rw [hol] at c13
        have c3 : (w.alloc (.cells r.cells 51)).cell? ⟨w.heap.size, 3, none⟩ = some (.int .u8 r.p0) := blk_cell (heap_alloc_new w _) 3
        by_cases hpo : r.pair x.head.player = o
        · have HS := Lib.hid (show sureS x r = ({ x with count := x.count + 1, owned := os, l := x.l ++ [r] }, 0) by unfold sureS; rw [hown]; exact (if_pos ⟨hbeg, hfr⟩).trans (if_pos hpo))
          have hpo' := hpo
          clear c3
          have dpo : (x.head.player = 0 ∧ (r.p0 != o) = false) ∨ (x.head.player = 1 ∧ (r.p1 != o) = false) := by
            rcases hp with hp | hp
            · exact Or.inl ⟨hp, by rw [hp] at hpo; simpa [Rec.pair] using hpo⟩
            · exact Or.inr ⟨hp, by rw [hp] at hpo; simpa [Rec.pair] using hpo⟩
          clear hbeg hown hp hpo hfr
          rcases dpo with ⟨hp, dpo⟩ | ⟨hp, dpo⟩ <;> rw [hp] at c9
          all_goals
            have z12 : w.frozen? ⟨g, 12, none⟩ = false := blk_frozen HB1.out 12
            go_enter Tryd.func74, Tryd.ntmps74
            go_wp2_with fail
            go_quiet (fail)
            revert nq
            intro nq1
            go_wp2_with fail
            go_quiet (fail)
            go_wp2_with fail
            have hvl : ∀ k, (Value.slice Al x.l.length cl).ownBlock = some k → F k ∧ k < w.heap.size := fun k e => ⟨h5 k e, (h7 k (h5 k e)).2⟩
            have hvo : ∀ k, (Value.slice (some ⟨bo, fo, po⟩) (os.length + 1) co).ownBlock = some k → F k ∧ k < w.heap.size := fun k e => ⟨h6 k e, (h7 k (h6 k e)).2⟩
            have HM1 := Lib.hid (show Mid w base g n { x with count := x.count + 1 } r (.slice Al x.l.length cl) (.slice (some ⟨bo, fo, po⟩) (os.length + 1) co) F (((w.alloc (.cells #[.int .i64 r.kind, .int .u64 r.frame, .int .u8 r.own, .int .u8 r.p0, .int .u8 r.p1, .int .u64 r.seg, .int .u64 r.first, .int .u64 r.epoch, .int .u8 r.player] 51)).drewN (nq1 + nq)).setCell ⟨g, 12, none⟩ (.int .u64 (x.count + 1))) x.l (o :: os) (.slice Al x.l.length cl) (.slice (some ⟨bo, fo, po⟩) (os.length + 1) co) from
              ⟨blk_set (w := (w.alloc (.cells #[.int .i64 r.kind, .int .u64 r.frame, .int .u8 r.own, .int .u8 r.p0, .int .u8 r.p1, .int .u64 r.seg, .int .u64 r.first, .int .u64 r.epoch, .int .u8 r.player] 51)).drewN (nq1 + nq)) (blk_alloc HB2.out _) 12 _, blk_far (w := (w.alloc (.cells #[.int .i64 r.kind, .int .u64 r.frame, .int .u8 r.own, .int .u8 r.p0, .int .u8 r.p1, .int .u64 r.seg, .int .u64 r.first, .int .u64 r.epoch, .int .u8 r.player] 51)).drewN (nq1 + nq)) (heap_alloc_new w _) (p := ⟨g, 12, none⟩) (fun e => hne e.symm) _, q_move (q_alloc H2.out (.cells #[.int .i64 r.kind, .int .u64 r.frame, .int .u8 r.own, .int .u8 r.p0, .int .u8 r.p1, .int .u64 r.seg, .int .u64 r.first, .int .u64 r.epoch, .int .u8 r.player] 51)) (fun k e => Below.heap_setCell _ _ _ k (hgl k e)), q_move (q_alloc H3o.out (.cells #[.int .i64 r.kind, .int .u64 r.frame, .int .u8 r.own, .int .u8 r.p0, .int .u8 r.p1, .int .u64 r.seg, .int .u64 r.first, .int .u64 r.epoch, .int .u8 r.player] 51)) (fun k e => Below.heap_setCell _ _ _ k (hgo k e)), Kept.setCell (((Kept.refl w _).alloc _).drewN _) (Or.inl h4) _, (pw_below_drewN ((Below.refl base w).alloc hbw _) _).setCell hg.1 _, fun k e => Or.inl (hvl k e), fun k e => Or.inl (hvo k e)⟩)
            clear c4 c11 c13 c10 hneo dfr d0 hcnt co0 dpo z12 c9
            generalize ((w.alloc (.cells #[.int .i64 r.kind, .int .u64 r.frame, .int .u8 r.own, .int .u8 r.p0, .int .u8 r.p1, .int .u64 r.seg, .int .u64 r.first, .int .u64 r.epoch, .int .u8 r.player] 51)).drewN (nq1 + nq)).setCell ⟨g, 12, none⟩ (.int .u64 (x.count + 1)) = w1 at HM1 ⊢
            have HMd := Lib.hid (show Mid w base g n { x with count := x.count + 1 } r (.slice Al x.l.length cl) (.slice (some ⟨bo, fo, po⟩) (os.length + 1) co) F w1.drew x.l (o :: os) (.slice Al x.l.length cl) (.slice (some ⟨bo, fo, po⟩) (os.length + 1) co) from ⟨HM1.out.hg, HM1.out.hr, HM1.out.ql, HM1.out.qo, HM1.out.kept, ⟨HM1.out.below.os, HM1.out.below.tape, HM1.out.below.output, HM1.out.below.size, HM1.out.below.block⟩, HM1.out.al, HM1.out.ao⟩)
            refine start_ (n := 20) (S := (fun w' => w'.cell? ⟨g, 13, none⟩ = some (.slice (some ⟨bo, fo, po⟩) (os.length + 1) co) ∧ w'.cell? ⟨g, 10, none⟩ = some (.slice Al x.l.length cl) ∧ w'.cell? ⟨w.heap.size, 0, none⟩ = some (.int .i64 r.kind) ∧ w'.cell? ⟨w.heap.size, 1, none⟩ = some (.int .u64 r.frame) ∧ w'.cell? ⟨w.heap.size, 2, none⟩ = some (.int .u8 r.own) ∧ w'.cell? ⟨w.heap.size, 3, none⟩ = some (.int .u8 r.p0) ∧ w'.cell? ⟨w.heap.size, 4, none⟩ = some (.int .u8 r.p1) ∧ w'.cell? ⟨w.heap.size, 5, none⟩ = some (.int .u64 r.seg) ∧ w'.cell? ⟨w.heap.size, 6, none⟩ = some (.int .u64 r.first) ∧ w'.cell? ⟨w.heap.size, 7, none⟩ = some (.int .u64 r.epoch) ∧ w'.cell? ⟨w.heap.size, 8, none⟩ = some (.int .u8 r.player))) (ds := [16, 19]) #[false, false, false, false, false, false, false, false, false, false, false, false, false, false, false, false, false, false, false, false] (by kernel_rfl) rfl rfl ⟨blk_cell (HMd.out).hg 13, blk_cell (HMd.out).hg 10, blk_cell (HMd.out).hr 0, blk_cell (HMd.out).hr 1, blk_cell (HMd.out).hr 2, blk_cell (HMd.out).hr 3, blk_cell (HMd.out).hr 4, blk_cell (HMd.out).hr 5, blk_cell (HMd.out).hr 6, blk_cell (HMd.out).hr 7, blk_cell (HMd.out).hr 8⟩ (fun hHeld => ?_)
            generalize w1.drew = wd at HMd hHeld ⊢
            refine pure_ (i := 0) (N := some 51) (v := ?_) (a' := ?_) #[true, false, false, false, false, false, false, false, false, false, false, false, false, false, false, false, false, false, false, false] rfl rfl (by kernel_rfl) (fun _ _ _ h => h) (Or.inl ⟨by rfl, ?_⟩) ?_ ?_
            rotate_left
            · intro w'
              go_simp
              with_reducible rfl
            rotate_left
            · simp only [Act.put, List.setIfInBounds_toArray, List.set_cons_zero, List.set_cons_succ, i64_w, i32_w]
              rfl
            refine pure_ (i := 1) (N := some 52) (v := ?_) (a' := ?_) #[true, true, false, false, false, false, false, false, false, false, false, false, false, false, false, false, false, false, false, false] rfl rfl (by kernel_rfl) (fun _ _ _ h => h) (Or.inl ⟨by rfl, ?_⟩) ?_ ?_
            rotate_left
            · intro w'
              go_simp
              with_reducible rfl
            rotate_left
            · simp only [Act.put, List.setIfInBounds_toArray, List.set_cons_zero, List.set_cons_succ, i64_w, i32_w]
              rfl
            refine pure_ (i := 2) (N := some 53) (v := ?_) (a' := ?_) #[true, true, true, false, false, false, false, false, false, false, false, false, false, false, false, false, false, false, false, false] rfl rfl (by kernel_rfl) (fun _ _ _ h => h) (Or.inl ⟨by rfl, ?_⟩) ?_ ?_
            rotate_left
            · intro w'
              go_simp
              with_reducible rfl
            rotate_left
            · simp only [Act.put, List.setIfInBounds_toArray, List.set_cons_zero, List.set_cons_succ, i64_w, i32_w]
              rfl
            refine pure_ (i := 3) (N := some 54) (v := ?_) (a' := ?_) #[true, true, true, true, false, false, false, false, false, false, false, false, false, false, false, false, false, false, false, false] rfl rfl (by kernel_rfl) (fun _ _ _ h => h) (Or.inl ⟨by rfl, ?_⟩) ?_ ?_
            rotate_left
            · intro w'
              go_simp
              with_reducible rfl
            rotate_left
            · simp only [Act.put, List.setIfInBounds_toArray, List.set_cons_zero, List.set_cons_succ, i64_w, i32_w]
              rfl
            refine pure_ (i := 4) (N := some 55) (v := ?_) (a' := ?_) #[true, true, true, true, true, false, false, false, false, false, false, false, false, false, false, false, false, false, false, false] rfl rfl (by kernel_rfl) (fun _ _ _ h => h) (Or.inl ⟨by rfl, ?_⟩) ?_ ?_
            rotate_left
            · intro w'
              go_simp
              with_reducible rfl
            rotate_left
            · simp only [Act.put, List.setIfInBounds_toArray, List.set_cons_zero, List.set_cons_succ, i64_w, i32_w]
              rfl
            refine take_ (i := 5) (N := some 56) (v := ?_) (a' := ?_) #[true, true, true, true, true, true, false, false, false, false, false, false, false, false, false, false, false, false, false, false] rfl rfl (by kernel_rfl) (fun _ _ _ h => h) (Or.inl ⟨by rfl, ?_⟩) hHeld ?_ ?_
            rotate_left
            · rintro w' ⟨s0, s1, s2, s3, s4, s5, s6, s7, s8, s9, s10⟩
              go_simp
              with_reducible rfl
            rotate_left
            · simp only [Act.put, List.setIfInBounds_toArray, List.set_cons_zero, List.set_cons_succ, i64_w, i32_w]
              rfl
            refine pure_ (i := 6) (N := some 57) (v := ?_) (a' := ?_) #[true, true, true, true, true, true, true, false, false, false, false, false, false, false, false, false, false, false, false, false] rfl rfl (by kernel_rfl) (fun _ _ _ h => h) (Or.inl ⟨by rfl, ?_⟩) ?_ ?_
            rotate_left
            · intro w'
              go_simp
              with_reducible rfl
            rotate_left
            · simp only [Act.put, List.setIfInBounds_toArray, List.set_cons_zero, List.set_cons_succ, i64_w, i32_w]
              rfl
            refine pure_ (i := 7) (N := some 58) (v := ?_) (a' := ?_) #[true, true, true, true, true, true, true, true, false, false, false, false, false, false, false, false, false, false, false, false] rfl rfl (by kernel_rfl) (fun _ _ _ h => h) (Or.inl ⟨by rfl, ?_⟩) ?_ ?_
            rotate_left
            · intro w'
              go_simp
              with_reducible rfl
            rotate_left
            · simp only [Act.put, List.setIfInBounds_toArray, List.set_cons_zero, List.set_cons_succ, i64_w, i32_w]
              rfl
            refine pure_ (i := 8) (N := some 59) (v := ?_) (a' := ?_) #[true, true, true, true, true, true, true, true, true, false, false, false, false, false, false, false, false, false, false, false] rfl rfl (by kernel_rfl) (fun _ _ _ h => h) (Or.inl ⟨by rfl, ?_⟩) ?_ ?_
            rotate_left
            · intro w'
              go_simp
              with_reducible rfl
            rotate_left
            · simp only [Act.put, List.setIfInBounds_toArray, List.set_cons_zero, List.set_cons_succ, i64_w, i32_w]
              rfl
            refine pure_ (i := 9) (N := some 60) (v := ?_) (a' := ?_) #[true, true, true, true, true, true, true, true, true, true, false, false, false, false, false, false, false, false, false, false] rfl rfl (by kernel_rfl) (fun _ _ _ h => h) (Or.inl ⟨by rfl, ?_⟩) ?_ ?_
            rotate_left
            · intro w'
              go_simp
              with_reducible rfl
            rotate_left
            · simp only [Act.put, List.setIfInBounds_toArray, List.set_cons_zero, List.set_cons_succ, i64_w, i32_w]
              rfl
            refine take_ (i := 10) (N := some 61) (v := ?_) (a' := ?_) #[true, true, true, true, true, true, true, true, true, true, true, false, false, false, false, false, false, false, false, false] rfl rfl (by kernel_rfl) (fun _ _ _ h => h) (Or.inl ⟨by rfl, ?_⟩) hHeld ?_ ?_
            rotate_left
            · rintro w' ⟨s0, s1, s2, s3, s4, s5, s6, s7, s8, s9, s10⟩
              go_simp
              with_reducible rfl
            rotate_left
            · simp only [Act.put, List.setIfInBounds_toArray, List.set_cons_zero, List.set_cons_succ, i64_w, i32_w]
              rfl
            refine take_ (i := 11) (N := some 62) (v := ?_) (a' := ?_) #[true, true, true, true, true, true, true, true, true, true, true, true, false, false, false, false, false, false, false, false] rfl rfl (by kernel_rfl) (fun _ _ _ h => h) (Or.inl ⟨by rfl, ?_⟩) hHeld ?_ ?_
            rotate_left
            · rintro w' ⟨s0, s1, s2, s3, s4, s5, s6, s7, s8, s9, s10⟩
              go_simp
              with_reducible rfl
            rotate_left
            · simp only [Act.put, List.setIfInBounds_toArray, List.set_cons_zero, List.set_cons_succ, i64_w, i32_w]
              rfl
            refine one_ (i := 12) (N := some 63) #[true, true, true, true, true, true, true, true, true, true, true, true, true, false, false, false, false, false, false, false] rfl rfl (by kernel_rfl) (by decide) (fun K hK => ?_)
            refine value_ (w1 := ?_) (v := ?_) (by rfl) rfl ?_ ?_
            rotate_left 2
            · go_simp
              constructor
              · rfl
              · rfl
            refine hK.out _ _ ⟨blk_cell (mid_alloc (HMd.out) hbw _).hg 13, blk_cell (mid_alloc (HMd.out) hbw _).hg 10, blk_cell (mid_alloc (HMd.out) hbw _).hr 0, blk_cell (mid_alloc (HMd.out) hbw _).hr 1, blk_cell (mid_alloc (HMd.out) hbw _).hr 2, blk_cell (mid_alloc (HMd.out) hbw _).hr 3, blk_cell (mid_alloc (HMd.out) hbw _).hr 4, blk_cell (mid_alloc (HMd.out) hbw _).hr 5, blk_cell (mid_alloc (HMd.out) hbw _).hr 6, blk_cell (mid_alloc (HMd.out) hbw _).hr 7, blk_cell (mid_alloc (HMd.out) hbw _).hr 8⟩ (fun hHeld => ?_)
            clear hK K
            refine norm_ (a' := ?_) ?_ ?_
            rotate_left
            · show Act.put _ (some 63) _ = _
              simp only [Act.put, List.setIfInBounds_toArray, List.set_cons_zero, List.set_cons_succ, i64_w, i32_w]
              rfl
            refine one_ (i := 13) (N := some 64) #[true, true, true, true, true, true, true, true, true, true, true, true, true, true, false, false, false, false, false, false] rfl rfl (by kernel_rfl) (by decide) (fun K hK => ?_)
            refine q_app_step base (by rfl) (.tmp 61) (.tmp 63) 52 51 Rec.zero.val 9 56 (by rfl) Tryd.underlying52 info51b rfl (by decide) (by decide) (.slice Al x.l.length cl) x.l.length (flatR x.l) ⟨wd.heap.size, 0, none⟩ 1 1 r.cells.toList (by rfl) (by rfl) (by decide) rfl ?hn (by intro u hu; exact (Array.all_eq_true_iff_forall_mem.1 r.ones) u (by simpa using hu)) ?hq ?hbase (by omega) ?_
            case hn => exact news_blk (heap_alloc_new wd _)
            case hq => exact (mid_alloc (HMd.out) hbw _).ql
            case hbase => exact mid_base (mid_alloc (HMd.out) hbw _) hbw
            intro v_ w3 hq hgr hat
            obtain ⟨AL, cL, hv_, _⟩ := q_slice hq
            subst hv_
            have HM3 := Lib.hid (mid_appL (mid_alloc (HMd.out) hbw _) hvl hbw r hq hgr hat)
            have HFar3 := Lib.hid (fun k o (hk : w.heap.size ≤ k) hb => mid_far (mid_alloc (HMd.out) hbw _) hvl hgr (k := k) (o := o) hk hb)
            clear hq hgr hat
            refine hK.out _ _ ⟨blk_cell (HM3.out).hg 13, blk_cell (HM3.out).hg 10, blk_cell (HM3.out).hr 0, blk_cell (HM3.out).hr 1, blk_cell (HM3.out).hr 2, blk_cell (HM3.out).hr 3, blk_cell (HM3.out).hr 4, blk_cell (HM3.out).hr 5, blk_cell (HM3.out).hr 6, blk_cell (HM3.out).hr 7, blk_cell (HM3.out).hr 8⟩ (fun hHeld => ?_)
            clear hK K
            refine norm_ (a' := ?_) ?_ ?_
            rotate_left
            · show Act.put _ (some 64) _ = _
              simp only [Act.put, List.setIfInBounds_toArray, List.set_cons_zero, List.set_cons_succ, i64_w, i32_w]
              rfl
            refine pure_ (i := 14) (N := some 65) (v := ?_) (a' := ?_) #[true, true, true, true, true, true, true, true, true, true, true, true, true, true, true, false, false, false, false, false] rfl rfl (by kernel_rfl) (fun _ _ _ h => h) (Or.inl ⟨by rfl, ?_⟩) ?_ ?_
            rotate_left
            · intro w'
              go_simp
              with_reducible rfl
            rotate_left
            · simp only [Act.put, List.setIfInBounds_toArray, List.set_cons_zero, List.set_cons_succ, i64_w, i32_w]
              rfl
            refine pure_ (i := 15) (N := some 66) (v := ?_) (a' := ?_) #[true, true, true, true, true, true, true, true, true, true, true, true, true, true, true, true, false, false, false, false] rfl rfl (by kernel_rfl) (fun _ _ _ h => h) (Or.inl ⟨by rfl, ?_⟩) ?_ ?_
            rotate_left
            · intro w'
              go_simp
              with_reducible rfl
            rotate_left
            · simp only [Act.put, List.setIfInBounds_toArray, List.set_cons_zero, List.set_cons_succ, i64_w, i32_w]
              rfl
            refine last_ (i := 16) (N := none) #[true, true, true, true, true, true, true, true, true, true, true, true, true, true, true, true, true, false, false, false] rfl rfl (by kernel_rfl) (by decide) (fun K hK => ?_)
            have t13 : w3.cell? ⟨g, 13, none⟩ = some (.slice (some ⟨bo, fo, po⟩) (os.length + 1) co) := blk_cell HM3.out.hg 13
            have z13 := blk_frozen HM3.out.hg 13
            refine skip_ (w1 := ?_) (by rfl) rfl ?_ ?_
            rotate_left
            · go_simp
              rfl
            refine hK.out _ _ ?_
            clear hK K
            refine pure_ (i := 17) (N := some 67) (v := ?_) (a' := ?_) #[true, true, true, true, true, true, true, true, true, true, true, true, true, true, true, true, true, true, false, false] rfl rfl (by kernel_rfl) (fun _ _ _ h => h) (Or.inl ⟨by rfl, ?_⟩) ?_ ?_
            rotate_left
            · intro w'
              go_simp
              with_reducible rfl
            rotate_left
            · simp only [Act.put, List.setIfInBounds_toArray, List.set_cons_zero, List.set_cons_succ, i64_w, i32_w]
              rfl
            refine pure_ (i := 18) (N := some 68) (v := ?_) (a' := ?_) #[true, true, true, true, true, true, true, true, true, true, true, true, true, true, true, true, true, true, true, false] rfl rfl (by kernel_rfl) (fun _ _ _ h => h) (Or.inl ⟨by rfl, ?_⟩) ?_ ?_
            rotate_left
            · intro w'
              go_simp
              with_reducible rfl
            rotate_left
            · simp only [Act.put, List.setIfInBounds_toArray, List.set_cons_zero, List.set_cons_succ, i64_w, i32_w]
              rfl
            refine last_ (i := 19) (N := none) #[true, true, true, true, true, true, true, true, true, true, true, true, true, true, true, true, true, true, true, true] rfl rfl (by kernel_rfl) (by decide) (fun K hK => ?_)
            have t10 : (w3.setCell ⟨g, 13, none⟩ (.slice (if co = 1 then some ⟨bo, fo, po⟩ else some ⟨bo, fo + 1, none⟩) os.length (co - 1))).cell? ⟨g, 10, none⟩ = some (.slice Al x.l.length cl) := (blk_cell (blk_set HM3.out.hg 13 _) 10).trans rfl
            have z10 := blk_frozen (blk_set HM3.out.hg 13 (.slice (if co = 1 then some ⟨bo, fo, po⟩ else some ⟨bo, fo + 1, none⟩) os.length (co - 1))) 10
            refine skip_ (w1 := ?_) (by rfl) rfl ?_ ?_
            rotate_left
            · go_simp
              rfl
            refine hK.out _ _ ?_
            clear hK K
            refine done_ (by kernel_rfl) ?_
            go_wp2
            all_goals
              go_ret
              rw [HS.out]
              refine ⟨rfl, ?_⟩
            · refine mid_end (mid_dropO1 (by assumption) HM3.out) h4 h7 hbw (x' := { x with count := x.count + 1, owned := os, l := x.l ++ [r] }) (blk_set (blk_set HM3.out.hg 13 _) 10 _) ?_ ?_ rfl rfl
              · exact Kept.setCell (S := fun i => i = g) (Kept.setCell (S := fun i => i = g) (Kept.refl _ _) (Or.inl rfl) _) (Or.inl rfl) _
              · exact ((Below.refl base _).setCell hg.1 _).setCell hg.1 _
            · refine mid_end (mid_dropO2 (by assumption) HM3.out) h4 h7 hbw (x' := { x with count := x.count + 1, owned := os, l := x.l ++ [r] }) (blk_set (blk_set HM3.out.hg 13 _) 10 _) ?_ ?_ rfl rfl
              · exact Kept.setCell (S := fun i => i = g) (Kept.setCell (S := fun i => i = g) (Kept.refl _ _) (Or.inl rfl) _) (Or.inl rfl) _
              · exact ((Below.refl base _).setCell hg.1 _).setCell hg.1 _
        · have HS := Lib.hid (show sureS x r = (x, 14) by unfold sureS; rw [hown]; exact (if_pos ⟨hbeg, hfr⟩).trans (if_neg hpo))
          rcases hp with hp | hp
          · rw [hp] at c9
            have dpo : (r.p0 != o) = true := by rw [hp] at hpo; simpa [Rec.pair] using hpo
            clear hbeg hown hp hpo hfr c3
            go_enter Tryd.func74, Tryd.ntmps74
            go_wp2_with fail
            go_quiet (fail)
            go_wp2_with fail
            go_quiet (fail)
            go_wp2
            go_ret
            rw [HS.out]
            exact ⟨rfl, HDid2.out _ _⟩
          · rw [hp] at c9
            have dpo : (r.p1 != o) = true := by rw [hp] at hpo; simpa [Rec.pair] using hpo
            clear hbeg hown hp hpo hfr c3
            go_enter Tryd.func74, Tryd.ntmps74
            go_wp2_with fail
            go_quiet (fail)
            go_wp2_with fail
            go_quiet (fail)
            go_wp2
            go_ret
            rw [HS.out]
            exact ⟨rfl, HDid2.out _ _⟩
    · have dfr : (r.frame != x.count) = true := by simp [hfr]
      have HS := Lib.hid (show sureS x r = (x, 11) by unfold sureS; split; rfl; exact if_neg (fun h => hfr h.2))
      clear hbeg hfr
      go_enter Tryd.func74, Tryd.ntmps74
      go_wp2_with fail
      go_quiet (fail)
      go_wp2
      go_ret
      rw [HS.out]
      exact ⟨rfl, HDid.out _⟩
end Go.Proofs.YtnhjhaphfdlkfaaDoor.Sg
/- The scanner's take. -/
set_option linter.unusedVariables false
set_option linter.unusedSimpArgs false
namespace Go.Proofs.YtnhjhaphfdlkfaaDoor.Sg
open Go.RowKit Go.Proofs.YtnhjhaphfdlkfaaDoor.HF Go.Proofs.YtnhjhaphfdlkfaaDoor.SB Go.Proofs.YtnhjhaphfdlkfaaDoorW.PrintWords Go.Proofs.YtnhjhaphfdlkfaaDoorW.PrintLast Go.Proofs.YtnhjhaphfdlkfaaDoorW.PrintMore
theorem did_from {w w1 w' : World} {base g : Nat} {n : Int} {x : Sc} {F : Nat → Prop} (hk : Kept w w1 F) (hb : Below base w w1) (h : DidSc w1 w' base g n x F) : DidSc w w' base g n x F := by
  obtain ⟨F', h1, h2, h3, h4⟩ := h
  refine ⟨F', h1, fun k hf => (h2 k hf).imp id (fun h => Nat.le_trans hk.1 h), hk.then_ h3 (fun k e => Or.inl e), hb.trans h4⟩
def stakeS (n : Int) (x : Sc) (r : Rec) : Sc × Int := if r.kind = 3 then beginS n x r else if r.kind = 2 then sureS x r else ownS x r
/-- What the scanner is asked to be, ahead of a record. -/
structure Sc.Ok (x : Sc) : Prop where
  frames : 0 ≤ x.count ∧ x.count + x.owned.length < 18446744073709551616
  few : x.l.length ≤ 100000
  player : x.head.player = 0 ∨ x.head.player = 1
theorem mf (fn : Fn) (first cap : Array Value) (w : World) : (Instr.makeFunc fn first cap).run Tryd.prog w = .ok (.func fn first cap) w := rfl
set_option maxHeartbeats 1000000 in
set_option maxRecDepth 100000 in
theorem stake_calls (w : World) (base g : Nat) (n : Int) (x : Sc) (F : Nat → Prop) (h : IsSc w base g n x F) (hbw : base ≤ w.heap.size) (r : Rec) (hr : 0 ≤ r.frame ∧ r.frame < 18446744073709551616) (hx : x.Ok) :
    Calls Tryd.prog 52 #[.pointer (some ⟨g, 0, none⟩), r.val] w fun e w' => e = .returned (.int .i64 (stakeS n x r).2) ∧ DidSc w w' base g n (stakeS n x r).1 F := by
  have hmf := mf
  have HK := Lib.hid ((Kept.refl w F).alloc (.cells r.cells 51))
  have HB := Lib.hid ((Below.refl base w).alloc hbw (.cells r.cells 51))
  have HS := Lib.hid (sc_kept h ((Kept.refl w (fun _ => False)).alloc (.cells r.cells 51)) (fun _ _ h => h))
  have HOk := Lib.hid hx
  have HR := Lib.hid hr
  clear h hx hr
  unfold Rec.val Rec.cells
  by_cases h3 : r.kind = 3
  · have d3 : (r.kind == 3) = true := by simp [h3]
    have HST := Lib.hid (show stakeS n x r = beginS n x r from if_pos h3)
    clear h3
    go_enter Tryd.func52, Tryd.ntmps52
    go_wp2_with fail
    refine (begin_calls (w.alloc (.cells r.cells 51)) base g n x F HS.out (by simp; omega) r).mono ?_
    rintro e w1 ⟨rfl, hD⟩
    have HD := Lib.hid (did_from HK.out HB.out hD)
    clear hD
    go_wp2_with fail
    go_ret
    rw [HST.out]
    exact ⟨rfl, HD.out⟩
  · have d3 : (r.kind == 3) = false := by simp [h3]
    by_cases h2 : r.kind = 2
    · have d2 : (r.kind == 2) = true := by simp [h2]
      have HST := Lib.hid (show stakeS n x r = sureS x r from (if_neg h3).trans (if_pos h2))
      clear h3 h2
      go_enter Tryd.func52, Tryd.ntmps52
      go_wp2_with fail
      refine (sure_calls (w.alloc (.cells r.cells 51)) base g n x F HS.out (by simp; omega) r HOk.out.frames HOk.out.few HOk.out.player).mono ?_
      rintro e w1 ⟨rfl, hD⟩
      have HD := Lib.hid (did_from HK.out HB.out hD)
      clear hD
      go_wp2_with fail
      go_ret
      rw [HST.out]
      exact ⟨rfl, HD.out⟩
    · have d2 : (r.kind == 2) = false := by simp [h2]
      have HST := Lib.hid (show stakeS n x r = ownS x r from (if_neg h3).trans (if_neg h2))
      clear h3 h2
      go_enter Tryd.func52, Tryd.ntmps52
      go_wp2_with fail
      refine (own_calls (w.alloc (.cells r.cells 51)) base g n x F HS.out (by simp; omega) r HR.out ⟨HOk.out.frames.1, by have := HOk.out.frames.2; omega⟩ HOk.out.few).mono ?_
      rintro e w1 ⟨rfl, hD⟩
      have HD := Lib.hid (did_from HK.out HB.out hD)
      clear hD
      go_wp2_with fail
      go_ret
      rw [HST.out]
      exact ⟨rfl, HD.out⟩
end Go.Proofs.YtnhjhaphfdlkfaaDoor.Sg
/- first, over three closures. -/
set_option linter.unusedVariables false
set_option linter.unusedSimpArgs false
namespace Go.Proofs.YtnhjhaphfdlkfaaDoor.Sg
open Go.RowKit Go.Proofs.YtnhjhaphfdlkfaaDoor.HF Go.Proofs.YtnhjhaphfdlkfaaDoor.SB Go.Proofs.YtnhjhaphfdlkfaaDoorW.PrintWords Go.Proofs.YtnhjhaphfdlkfaaDoorW.PrintLast Go.Proofs.YtnhjhaphfdlkfaaDoorW.PrintMore
set_option maxHeartbeats 1000000 in
set_option maxRecDepth 100000 in
theorem first_calls (w : World) (b : Nat) (k : Nat → FuncId) (c : Nat → Array Value) (Inv : Nat → World → Prop) (Post : Int → World → Prop)
    (hk : ∀ j, j < 3 → ∀ args W, (callFunc (k j) args).run Tryd.prog W = .ok (.enter (k j) args) W)
    (hrow : ∀ j W, Inv j W → W.heap[b]? = some (.cells #[.func (.func (k 0)) #[] (c 0), .func (.func (k 1)) #[] (c 1), .func (.func (k 2)) #[] (c 2)] 91 (0, 0)))
    (hcall : ∀ j, j < 3 → ∀ W, Inv j W → Calls Tryd.prog (k j) (c j) W fun e W' => ∃ v, e = .returned (.int .i64 v) ∧ (v = 0 → Inv (j + 1) W') ∧ (v ≠ 0 → Post v W'))
    (hend : ∀ W, Inv 3 W → Post 0 W) (h0 : Inv 0 w) :
    Calls Tryd.prog 47 #[.slice (some ⟨b, 0, none⟩) 3 3] w fun e w' => ∃ v, e = .returned (.int .i64 v) ∧ Post v w' := by
  have HR := Lib.hid hrow
  have HC := Lib.hid hcall
  have HE := Lib.hid hend
  have H0 := Lib.hid h0
  clear hrow hcall hend h0
  go_enter Tryd.func47, Tryd.ntmps47
  go_wp2_with fail
  go_loopw [8] (fun i wr => ∃ j : Nat, i = .int .i64 j ∧ j ≤ 3 ∧ Inv j wr) (fun i _ => 3 - (intOf i).toNat)
  case atStart => exact ⟨0, rfl, by omega, H0.out⟩
  case round =>
    obtain ⟨j, rfl, hj, hI⟩ := hrel
    by_cases h3 : j < 3
    · have hlt : decide ((j : Int) < 3) = true := decide_eq_true (by omega)
      have hcf : wr.cell? ⟨b, j, none⟩ = some (.func (.func (k j)) #[] (c j)) := by
        have hb := HR.out j wr hI
        rcases (by omega : j = 0 ∨ j = 1 ∨ j = 2) with rfl | rfl | rfl
        · exact blk_cell hb 0
        · exact blk_cell hb 1
        · exact blk_cell hb 2
      have hkj := hk j h3
      have HCj := Lib.hid (HC.out j h3 wr hI)
      clear hI
      go_wp2_with fail
      refine (HCj.out).mono ?_
      rintro e w2 ⟨v, rfl, hv0, hv1⟩
      by_cases hz : v = 0
      · have hzb : (v != 0) = false := by simp [hz]
        have HI := Lib.hid (hv0 hz)
        clear hv0 hv1
        go_wp2
        exact ⟨⟨j + 1, by go_num, by omega, HI.out⟩, by simp [intOf]; omega⟩
      · have hzb : (v != 0) = true := by simp [hz]
        have HQ := Lib.hid (hv1 hz)
        clear hv0 hv1
        go_wp2
        go_ret
        exact ⟨v, rfl, HQ.out⟩
    · have h33 : j = 3 := by omega
      subst h33
      have HQ := Lib.hid (HE.out wr hI)
      clear hI
      go_wp2
      go_ret
      exact ⟨0, rfl, HQ.out⟩
end Go.Proofs.YtnhjhaphfdlkfaaDoor.Sg
/- Scan's closures. -/
set_option linter.unusedVariables false
set_option linter.unusedSimpArgs false
namespace Go.Proofs.YtnhjhaphfdlkfaaDoor.Sg
open Go.RowKit Go.Proofs.YtnhjhaphfdlkfaaDoor.HF Go.Proofs.YtnhjhaphfdlkfaaDoor.SB Go.Proofs.YtnhjhaphfdlkfaaDoorW.PrintWords Go.Proofs.YtnhjhaphfdlkfaaDoorW.PrintLast Go.Proofs.YtnhjhaphfdlkfaaDoorW.PrintMore
set_option maxHeartbeats 1000000 in
set_option maxRecDepth 100000 in
theorem close48 (w : World) (base a b c d : Nat) (l : List UInt8) (gd : Nat) (vc vd : Value) (hl : l.length ≤ 100000) (hgd : gd ≤ l.length) (HL : Lay w)
    (ha : w.heap[a]? = some (.cells #[.string (bs l)] 9 (0, 0))) (hb : w.heap[b]? = some (.cells #[.int .i64 gd] 3 (0, 0))) (hc : w.heap[c]? = some (.cells #[vc] 9 (0, 0))) (hd : w.heap[d]? = some (.cells #[vd] 3 (0, 0))) (hcd : c ≠ d) (hbc : base ≤ c) (hbd : base ≤ d) :
    Calls Tryd.prog 48 #[.pointer (some ⟨a, 0, none⟩), .pointer (some ⟨b, 0, none⟩), .pointer (some ⟨c, 0, none⟩), .pointer (some ⟨d, 0, none⟩)] w fun e w' => e = .returned (.int .i64 (nextN (l.drop gd)).2.2) ∧ w'.heap[c]? = some (.cells #[.string (bs (nextN (l.drop gd)).1)] 9 (0, 0)) ∧ w'.heap[d]? = some (.cells #[.int .i64 (nextN (l.drop gd)).2.1] 3 (0, 0)) ∧ Kept w w' (fun i => i = c ∨ i = d) ∧ Below base w w' := by
  have hla := blk_lt ha
  have hlb := blk_lt hb
  have hlc := blk_lt hc
  have hld := blk_lt hd
  have ca : w.cell? ⟨a, 0, none⟩ = some (.string (bs l)) := blk_cell ha 0
  have cb : w.cell? ⟨b, 0, none⟩ = some (.int .i64 gd) := blk_cell hb 0
  have hgs : (gd : Int) ≤ (bs l).size := by rw [bs_size]; omega
  have hgx : (bs l).extract gd (bs l).size = bs (l.drop gd) := by rw [bs_extract, bs_size, List.take_length]
  have HN := Lib.hid (fun W (h : Lay W) => c_next (l.drop gd) (by rw [List.length_drop]; omega) W h)
  have HLy := Lib.hid HL
  have Hc := Lib.hid hc
  have Hd := Lib.hid hd
  clear ha hb hc hd HL
  go_enter Tryd.func48, Tryd.ntmps48
  go_wp2_with fail
  refine (HN.out w HLy.out).mono ?_
  rintro e w1 ⟨rfl, hB1⟩
  have Hc1 := Lib.hid ((hB1.block c hlc).trans Hc.out)
  have Hd1 := Lib.hid ((hB1.block d hld).trans Hd.out)
  have HK1 := Lib.hid (Kept.of_below hB1 (fun i => i = c ∨ i = d))
  have cc1 : w1.cell? ⟨c, 0, none⟩ = some vc := blk_cell Hc1.out 0
  have cd1 : w1.cell? ⟨d, 0, none⟩ = some vd := blk_cell Hd1.out 0
  have zc1 : w1.frozen? ⟨c, 0, none⟩ = false := blk_frozen Hc1.out 0
  have zd1 : w1.frozen? ⟨d, 0, none⟩ = false := blk_frozen Hd1.out 0
  have HB1 := Lib.hid (hB1.mono (show base ≤ w.heap.size by omega))
  clear hB1 HN
  generalize hG : (nextN (l.drop gd)) = N at *
  obtain ⟨T, m, e⟩ := N
  have HG := Lib.hid hG
  clear hG
  go_wp2
  go_ret
  rw [HG.out]
  refine ⟨rfl, ?_, ?_, ?_, ?_⟩
  · exact blk_far (blk_set Hc1.out 0 _) hcd _
  · exact blk_set (blk_far Hd1.out hcd.symm _) 0 _
  · exact (HK1.out.setCell (Or.inl (Or.inl rfl)) _).setCell (Or.inl (Or.inr rfl)) _
  · exact (HB1.out.setCell hbc _).setCell hbd _
set_option maxHeartbeats 1000000 in
set_option maxRecDepth 100000 in
theorem close49 (w : World) (base c q : Nat) (p : List UInt8) (R0 : Rec) (hl : p.length ≤ 100000)
    (hc : w.heap[c]? = some (.cells #[.string (bs p)] 9 (0, 0))) (hq : w.heap[q]? = some (.cells R0.cells 51 (0, 0))) (hbq : base ≤ q) :
    Calls Tryd.prog 49 #[.pointer (some ⟨c, 0, none⟩), .pointer (some ⟨q, 0, none⟩)] w fun e w' => e = .returned (.int .i64 (takeG p).2) ∧ w'.heap[q]? = some (.cells (takeG p).1.cells 51 (0, 0)) ∧ Kept w w' (fun i => i = q) ∧ Below base w w' := by
  have hlq := blk_lt hq
  have cc : w.cell? ⟨c, 0, none⟩ = some (.string (bs p)) := blk_cell hc 0
  have HT := Lib.hid (fun W => take_calls p hl W)
  have Hq := Lib.hid hq
  clear hc hq
  go_enter Tryd.func49, Tryd.ntmps49
  go_wp2_with fail
  refine (HT.out w).mono ?_
  rintro e w1 ⟨rfl, hB1⟩
  have Hq1 := Lib.hid ((hB1.block q hlq).trans Hq.out)
  have HK1 := Lib.hid (Kept.of_below hB1 (fun i => i = q))
  have HB1 := Lib.hid (hB1.mono (show base ≤ w.heap.size by omega))
  clear hB1 HT
  generalize hG : takeG p = N at *
  obtain ⟨R, e⟩ := N
  have HG := Lib.hid hG
  clear hG
  go_wp2_with (first | ((with_reducible refine gate_store (t := 51) (p := 1) rfl ?_); refine store_rec rfl 51 (.tmp 1) (.tmp 6) rfl info51 q 51 R R0 rfl rfl Hq1.out ?_; intro w2 hz2 hk2 hb2; have HZ2 := Lib.hid hz2; have HK2 := Lib.hid hk2; have HB2 := Lib.hid (hb2 base w hbq HB1.out); clear hz2 hk2 hb2))
  go_ret
  rw [HG.out]
  exact ⟨rfl, HZ2.out, HK1.out.then_ HK2.out (fun k e => Or.inl e), HB2.out⟩
set_option maxHeartbeats 1000000 in
set_option maxRecDepth 100000 in
theorem close51 (w : World) (base g s q : Nat) (n : Int) (x : Sc) (F : Nat → Prop) (r : Rec) (h : IsSc w base g n x F) (hbw : base ≤ w.heap.size) (hr : 0 ≤ r.frame ∧ r.frame < 18446744073709551616) (hx : x.Ok)
    (hs : w.heap[s]? = some (.cells #[.pointer (some ⟨g, 0, none⟩)] 100 (0, 0))) (hq : w.heap[q]? = some (.cells r.cells 51 (0, 0))) :
    Calls Tryd.prog 51 #[.pointer (some ⟨s, 0, none⟩), .pointer (some ⟨q, 0, none⟩)] w fun e w' => e = .returned (.int .i64 (stakeS n x r).2) ∧ DidSc w w' base g n (stakeS n x r).1 F := by
  have cs : w.cell? ⟨s, 0, none⟩ = some (.pointer (some ⟨g, 0, none⟩)) := blk_cell hs 0
  have HT := Lib.hid (stake_calls w base g n x F h hbw r hr hx)
  have Hq := Lib.hid hq
  clear h hr hx hs hq
  go_enter Tryd.func51, Tryd.ntmps51
  go_wp2_with (first | ((with_reducible refine gate_load (t := 51) (p := 1) rfl ?_); refine gate_guard (by rfl) ?_; refine load_rec rfl 51 (.tmp 1) rfl _ Tryd.underlying51 rfl info51 q 51 r rfl Hq.out ?_))
  refine HT.out.mono ?_
  rintro e w1 ⟨rfl, hD⟩
  go_wp2
  go_ret
  exact ⟨rfl, hD⟩
end Go.Proofs.YtnhjhaphfdlkfaaDoor.Sg
/- Scan, in plain words. -/
set_option linter.unusedVariables false
set_option linter.unusedSimpArgs false
namespace Go.Proofs.YtnhjhaphfdlkfaaDoor.Sg
open Go.RowKit Go.Proofs.YtnhjhaphfdlkfaaDoor.HF Go.Proofs.YtnhjhaphfdlkfaaDoor.SB
theorem g8_range (r : Option (List UInt8)) : 0 ≤ (g 8 r).1 ∧ (g 8 r).1 < 18446744073709551616 := by
  cases r with
  | none => simp [g]
  | some l =>
    by_cases h : 8 ≤ l.length
    · rw [g_yes 8 l h]
      have := numN_lt (l.take 8)
      rw [List.length_take, Nat.min_eq_left h] at this
      exact ⟨by simp only; omega, by simp only; omega⟩
    · rw [g_no 8 l h]; simp
/-- What is taken may be. -/
theorem take_may {p : List UInt8} (h : (takeG p).2 = 0) : (takeG p).1.may := by
  unfold takeG at h ⊢
  by_cases h0 : p = []
  · rw [if_pos h0] at h; cases h
  rw [if_neg h0] at h ⊢
  by_cases hk : (g 1 (some p)).1 = 1 ∨ (g 1 (some p)).1 = 2 ∨ (g 1 (some p)).1 = 3
  · rw [if_pos hk] at h ⊢
    by_cases h1 : (st (fieldsG { Rec.zero with kind := (g 1 (some p)).1 } (g 1 (some p)).2).2).2 = 0
    · rw [if_pos h1] at h ⊢
      by_cases h2 : (st (fieldsG { Rec.zero with kind := (g 1 (some p)).1 } (g 1 (some p)).2).2).1 = bs [] ∧ (fieldsG { Rec.zero with kind := (g 1 (some p)).1 } (g 1 (some p)).2).1.right = true
      · rw [if_pos h2]
        have hr := h2.2
        clear h h1 h2 h0
        generalize (g 1 (some p)).2 = q at *
        generalize (g 1 (some p)).1 = k at *
        simp only
        unfold Rec.right at hr
        simp only [Bool.and_eq_true, decide_eq_true_eq] at hr
        have e8 := fun r => g8_range r
        have e1 := fun r => g1_range r
        rcases hk with rfl | rfl | rfl
        · refine Or.inl ⟨rfl, rfl, e8 _, (e1 _).1, hr.1⟩
        · refine Or.inr (Or.inl ⟨rfl, rfl, e8 _, ⟨(e1 _).1, hr.2.1⟩, (e1 _).1, hr.2.2.1⟩)
        · refine Or.inr (Or.inr ⟨rfl, rfl, e8 _, e8 _, e8 _, (e1 _).1, hr.2.2.2⟩)
      · rw [if_neg h2] at h; cases h
    · rw [if_neg h1] at h; exact absurd h h1
  · rw [if_neg hk] at h; cases h
theorem may_frame {r : Rec} (h : r.may) : 0 ≤ r.frame ∧ r.frame < 18446744073709551616 := by
  rcases h with ⟨_, _, h, _⟩ | ⟨_, _, h, _⟩ | ⟨_, e, _⟩
  · exact h
  · exact h
  · rw [e]; simp [Rec.zero]
structure Sc.Good (x : Sc) : Prop where
  frames : 0 ≤ x.count ∧ x.count + x.owned.length < 18446744073709551616
  player : x.head.player = 0 ∨ x.head.player = 1
  idle : x.begun = false → x.owned = []
theorem good_step {x : Sc} (hx : x.Good) {r : Rec} (hr : r.may) (n : Int) : (stakeS n x r).1.Good := by
  unfold stakeS
  by_cases h3 : r.kind = 3
  · rw [if_pos h3]
    unfold beginS
    split
    · exact hx
    · rename_i hb
      rcases hr with ⟨e, _⟩ | ⟨e, _⟩ | ⟨_, _, _, hf, _, hp⟩
      · omega
      · omega
      have hbf : x.begun = false := by cases h : x.begun; rfl; exact absurd (Or.inl h) hb
      exact ⟨⟨hf.1, by simp only [hx.idle hbf]; simpa using hf.2⟩, by simp only; omega, fun h => by cases h⟩
  · rw [if_neg h3]
    by_cases h2 : r.kind = 2
    · rw [if_pos h2]
      unfold sureS
      cases ho : x.owned with
      | nil => exact hx
      | cons o os =>
        simp only
        split
        · split
          · rename_i hb _
            have := hx.frames
            rw [ho] at this
            simp only [List.length_cons] at this
            exact ⟨⟨by simp only; omega, by simp only; omega⟩, hx.player, fun h => by simp only at h; rw [hb.1] at h; cases h⟩
          · exact hx
        · exact hx
    · rw [if_neg h2]
      unfold ownS
      split
      · rename_i hc
        have := may_frame hr
        have h2 := hx.frames
        exact ⟨⟨h2.1, by simp only [List.length_append, List.length_singleton]; omega⟩, hx.player, fun h => by simp only at h; rw [hc.1] at h; cases h⟩
      · exact hx
theorem len_step (n : Int) (x : Sc) (r : Rec) : (stakeS n x r).1.l.length ≤ x.l.length + 1 := by
  unfold stakeS beginS sureS ownS
  split
  · split <;> simp
  · split
    · split
      · simp
      · split
        · split <;> simp
        · simp
    · split <;> simp
def Sc.start : Sc := ⟨Rec.zero, [], false, 0, []⟩
theorem good_start : Sc.start.Good := ⟨⟨by decide, by decide⟩, Or.inl rfl, fun _ => rfl⟩
/-- Scan. -/
def scanN (n : Int) (l : List UInt8) : Nat → Sc → Nat → Sc × Nat × Int
  | 0, x, gd => (x, gd, 0)
  | f + 1, x, gd =>
    if gd < l.length ∨ x.begun = false then
      (if (nextN (l.drop gd)).2.2 ≠ 0 then (x, gd, (nextN (l.drop gd)).2.2)
       else if (takeG (nextN (l.drop gd)).1).2 ≠ 0 then (x, gd, (takeG (nextN (l.drop gd)).1).2)
       else if (stakeS n x (takeG (nextN (l.drop gd)).1).1).2 ≠ 0 then ((stakeS n x (takeG (nextN (l.drop gd)).1).1).1, gd, (stakeS n x (takeG (nextN (l.drop gd)).1).1).2)
       else scanN n l f (stakeS n x (takeG (nextN (l.drop gd)).1).1).1 (gd + (nextN (l.drop gd)).2.1.toNat))
    else (x, gd, 0)
def scanG (n : Int) (l : List UInt8) : Sc × Nat × Int := scanN n l (l.length + 8) Sc.start 0
theorem next_len {l : List UInt8} (h : (nextN l).2.2 = 0) : 6 ≤ (nextN l).2.1 ∧ (nextN l).2.1 ≤ l.length ∧ (nextN l).1.length ≤ l.length := by
  unfold nextN at h ⊢
  split at h
  · cases h
  split at h
  · cases h
  split at h
  · cases h
  split at h
  · cases h
  rename_i h1 h2 h3 h4
  rw [if_neg h1, if_neg h2, if_neg h3, if_neg h4]
  rw [List.length_drop] at h3
  exact ⟨by simp only; omega, by simp only; omega, by simp only [List.length_take, List.length_drop]; omega⟩
theorem next_text_len (l : List UInt8) : (nextN l).1.length ≤ l.length := by
  by_cases h : (nextN l).2.2 = 0
  · exact (next_len h).2.2
  · unfold nextN at h ⊢
    split
    · simp
    split
    · simp
    split
    · simp
    split
    · simp
    · simp only [List.length_take, List.length_drop]; omega
end Go.Proofs.YtnhjhaphfdlkfaaDoor.Sg
/- Scan: between its rounds, what lies where. -/
set_option linter.unusedVariables false
set_option linter.unusedSimpArgs false
namespace Go.Proofs.YtnhjhaphfdlkfaaDoor.Sg
open Go.RowKit Go.Proofs.YtnhjhaphfdlkfaaDoor.HF Go.Proofs.YtnhjhaphfdlkfaaDoor.SB Go.Proofs.YtnhjhaphfdlkfaaDoorW.PrintWords Go.Proofs.YtnhjhaphfdlkfaaDoorW.PrintLast Go.Proofs.YtnhjhaphfdlkfaaDoorW.PrintMore
structure StB (w W : World) (n : Int) (l : List UInt8) (a h b g p : Nat) (x : Sc) (gd : Nat) (F : Nat → Prop) : Prop where
  cs : W.heap[a]? = some (.cells #[.string (bs l)] 9 (0, 0))
  ch : W.heap[h]? = some (.cells Rec.zero.cells 51 (0, 0))
  cb : W.heap[b]? = some (.cells #[.int .i64 gd] 3 (0, 0))
  cp : W.heap[p]? = some (.cells #[.pointer (some ⟨g, 0, none⟩)] 100 (0, 0))
  sc : IsSc W w.heap.size g n x F
  fa : ¬ F a
  fh : ¬ F h
  fb : ¬ F b
  fp : ¬ F p
  lo : w.heap.size ≤ a ∧ w.heap.size ≤ h ∧ w.heap.size ≤ b ∧ w.heap.size ≤ p
  below : Below w.heap.size w W
section
variable {w W W1 : World} {n : Int} {l : List UInt8} {a h b g p : Nat} {x x1 : Sc} {gd : Nat} {F S : Nat → Prop}
theorem stb_kept (H : StB w W n l a h b g p x gd F) (hk : Kept W W1 S) (hF : ∀ k, F k → ¬ S k) (ha : ¬ S a) (hh : ¬ S h) (hb : ¬ S b) (hp : ¬ S p) (hB : Below w.heap.size w W1) : StB w W1 n l a h b g p x gd F :=
  ⟨blk_kept H.cs hk ha, blk_kept H.ch hk hh, blk_kept H.cb hk hb, blk_kept H.cp hk hp, sc_kept H.sc hk hF, H.fa, H.fh, H.fb, H.fp, H.lo, hB⟩
theorem stb_free (H : StB w W n l a h b g p x gd F) (hk : Kept W W1 (fun _ => False)) (hB : Below w.heap.size w W1) : StB w W1 n l a h b g p x gd F := stb_kept H hk (fun _ _ h => h) (fun h => h) (fun h => h) (fun h => h) (fun h => h) hB
theorem stb_did (H : StB w W n l a h b g p x gd F) (hd : DidSc W W1 w.heap.size g n x1 F) : ∃ F1, StB w W1 n l a h b g p x1 gd F1 ∧ (∀ k, F1 k → F k ∨ W.heap.size ≤ k) ∧ Kept W W1 F := by
  obtain ⟨F1, h1, h2, h3, h4⟩ := hd
  have far : ∀ {k : Nat} {o : Obj}, W.heap[k]? = some o → ¬ F k → ¬ F1 k := fun hb hn hf => by
    rcases h2 _ hf with h | h
    · exact hn h
    · have := blk_lt hb; omega
  exact ⟨F1, ⟨blk_kept H.cs h3 H.fa, blk_kept H.ch h3 H.fh, blk_kept H.cb h3 H.fb, blk_kept H.cp h3 H.fp, h1, far H.cs H.fa, far H.ch H.fh, far H.cb H.fb, far H.cp H.fp, H.lo, H.below.trans h4⟩, h2, h3⟩
theorem ne_types {k j : Nat} {c1 c2 : Array Value} {t1 t2 : TypeId} (h1 : W.heap[k]? = some (.cells c1 t1 (0, 0))) (h2 : W.heap[j]? = some (.cells c2 t2 (0, 0))) (ht : t1 ≠ t2) : k ≠ j := by
  rintro rfl
  rw [h1] at h2
  simp at h2
  exact ht h2.2
theorem stb_good (H : StB w W n l a h b g p x gd F) (gd' : Nat) : StB w (W.setCell ⟨b, 0, none⟩ (.int .i64 gd')) n l a h b g p x gd' F :=
  ⟨blk_far H.cs (ne_types H.cs H.cb (by decide)) _, blk_far H.ch (ne_types H.ch H.cb (by decide)) _, blk_set H.cb 0 _, blk_far H.cp (ne_types H.cp H.cb (by decide)) _,
    sc_kept H.sc (Kept.setCell (S := fun i => i = b) (Kept.refl _ _) (Or.inl rfl) _) (fun k hf e => H.fb (e ▸ hf)), H.fa, H.fh, H.fb, H.fp, H.lo, H.below.setCell H.lo.2.2.1 _⟩
end
/-- One round of Scan. -/
def step1 (n : Int) (l : List UInt8) (x : Sc) (gd : Nat) : Sc × Int :=
  if (nextN (l.drop gd)).2.2 ≠ 0 then (x, (nextN (l.drop gd)).2.2)
  else if (takeG (nextN (l.drop gd)).1).2 ≠ 0 then (x, (takeG (nextN (l.drop gd)).1).2)
  else stakeS n x (takeG (nextN (l.drop gd)).1).1
theorem scan_step (n : Int) (l : List UInt8) (f : Nat) (x : Sc) (gd : Nat) (hc : gd < l.length ∨ x.begun = false) :
    scanN n l (f + 1) x gd = if (step1 n l x gd).2 ≠ 0 then ((step1 n l x gd).1, gd, (step1 n l x gd).2) else scanN n l f (step1 n l x gd).1 (gd + (nextN (l.drop gd)).2.1.toNat) := by
  rw [scanN, if_pos hc]
  unfold step1
  by_cases h1 : (nextN (l.drop gd)).2.2 ≠ 0
  · rw [if_pos h1, if_pos h1, if_pos h1]
  rw [if_neg h1, if_neg h1]
  by_cases h2 : (takeG (nextN (l.drop gd)).1).2 ≠ 0
  · rw [if_pos h2, if_pos h2, if_pos h2]
  rw [if_neg h2, if_neg h2]
theorem scan_done (n : Int) (l : List UInt8) (f : Nat) (x : Sc) (gd : Nat) (hc : ¬ (gd < l.length ∨ x.begun = false)) : scanN n l (f + 1) x gd = (x, gd, 0) := by rw [scanN, if_neg hc]
theorem step1_next {n : Int} {l : List UInt8} {x : Sc} {gd : Nat} (h : (step1 n l x gd).2 = 0) : (nextN (l.drop gd)).2.2 = 0 := by
  unfold step1 at h
  by_cases h1 : (nextN (l.drop gd)).2.2 ≠ 0
  · rw [if_pos h1] at h; exact absurd h h1
  · exact Decidable.not_not.1 h1
theorem step1_good {x : Sc} (hx : x.Good) (n : Int) (l : List UInt8) (gd : Nat) : (step1 n l x gd).1.Good := by
  unfold step1
  split
  · exact hx
  · split
    · exact hx
    · rename_i h
      exact good_step hx (take_may (Decidable.not_not.1 h)) n
theorem step1_len (n : Int) (l : List UInt8) (x : Sc) (gd : Nat) : (step1 n l x gd).1.l.length ≤ x.l.length + 1 := by
  unfold step1
  split
  · simp
  · split
    · simp
    · exact len_step _ _ _
theorem scan_res {tmps : Array Value} {w : World} (h b : Nat) (R : Rec) (gd : Nat) (h4 : tmps.getD 4 undef = .pointer (some ⟨h, 0, none⟩)) (h6 : tmps.getD 6 undef = .pointer (some ⟨b, 0, none⟩)) (hh : w.heap[h]? = some (.cells R.cells 51 (0, 0))) (hb : w.heap[b]? = some (.cells #[.int .i64 gd] 3 (0, 0))) :
    (results Tryd.f20 tmps).run Tryd.prog w = .ok (.tuple #[R.val, tmps.getD 5 undef, .int .i64 gd, tmps.getD 7 undef]) w := by
  have c6 : w.cell? ⟨b, 0, none⟩ = some (.int .i64 gd) := blk_cell hb 0
  have h1 := run_loadVar_row (P := Tryd.prog) w h 51 51 R.cells (0, 0) _ hh Tryd.underlying51 rfl info51
  have h3 : (loadVar 3 ⟨b, 0, none⟩).run Tryd.prog w = .ok (.int .i64 gd) w := by simp [go_sem, c6]
  unfold results
  rw [Tryd.results20, show (#[ResultVar.cell 4 51, .tmp 5, .cell 6 3, .tmp 7] : Array ResultVar) = [ResultVar.cell 4 51, .tmp 5, .cell 6 3, .tmp 7].toArray from rfl, List.mapM_toArray]
  simp only [List.mapM_cons, List.mapM_nil, Sem.run_bind, Sem.run_map, Sem.run_pure, Result.andThen_ok, h4, h6, asAddr, h1, h3]
  rfl
end Go.Proofs.YtnhjhaphfdlkfaaDoor.Sg
/- One round of Scan. -/
set_option linter.unusedVariables false
set_option linter.unusedSimpArgs false
namespace Go.Proofs.YtnhjhaphfdlkfaaDoor.Sg
open Go.RowKit Go.Proofs.YtnhjhaphfdlkfaaDoor.HF Go.Proofs.YtnhjhaphfdlkfaaDoor.SB Go.Proofs.YtnhjhaphfdlkfaaDoorW.PrintWords Go.Proofs.YtnhjhaphfdlkfaaDoorW.PrintLast Go.Proofs.YtnhjhaphfdlkfaaDoorW.PrintMore
def kF : Nat → FuncId
  | 0 => 48
  | 1 => 49
  | _ => 51
def cF (a b c d p q : Nat) : Nat → Array Value
  | 0 => #[.pointer (some ⟨a, 0, none⟩), .pointer (some ⟨b, 0, none⟩), .pointer (some ⟨c, 0, none⟩), .pointer (some ⟨d, 0, none⟩)]
  | 1 => #[.pointer (some ⟨c, 0, none⟩), .pointer (some ⟨q, 0, none⟩)]
  | _ => #[.pointer (some ⟨p, 0, none⟩), .pointer (some ⟨q, 0, none⟩)]
def rowF (a b c d p q : Nat) : Array Value := #[.func (.func 48) #[] (cF a b c d p q 0), .func (.func 49) #[] (cF a b c d p q 1), .func (.func 51) #[] (cF a b c d p q 2)]
theorem enter48 (args : Array Value) (W : World) : (callFunc 48 args).run Tryd.prog W = .ok (.enter 48 args) W := by rfl
theorem enter49 (args : Array Value) (W : World) : (callFunc 49 args).run Tryd.prog W = .ok (.enter 49 args) W := by rfl
theorem enter51 (args : Array Value) (W : World) : (callFunc 51 args).run Tryd.prog W = .ok (.enter 51 args) W := by rfl
structure Al (w W : World) (n : Int) (l : List UInt8) (a h b g p : Nat) (x : Sc) (gd : Nat) (F : Nat → Prop) (c d q v : Nat) (vc vd : Value) (R : Rec) : Prop where
  st : StB w W n l a h b g p x gd F
  hc : W.heap[c]? = some (.cells #[vc] 9 (0, 0))
  hd : W.heap[d]? = some (.cells #[vd] 3 (0, 0))
  hq : W.heap[q]? = some (.cells R.cells 51 (0, 0))
  hv : W.heap[v]? = some (.cells (rowF a b c d p q) 91 (0, 0))
theorem three_calls (w W : World) (n : Int) (l : List UInt8) (a h b g p : Nat) (x : Sc) (gd : Nat) (F : Nat → Prop) (c d q v : Nat) (vc vd : Value) (R0 : Rec) (H : Al w W n l a h b g p x gd F c d q v vc vd R0) (hl : l.length ≤ 100000) (HL : Lay w) (hx : x.Good) (hfew : x.l.length ≤ gd) (hgd : gd ≤ l.length)
    (hca : c ≠ a) (hdb : d ≠ b) (hqh : q ≠ h) (hFc : ¬ F c) (hFd : ¬ F d) (hFq : ¬ F q) (hFv : ¬ F v) (hlo : w.heap.size ≤ c ∧ w.heap.size ≤ d ∧ w.heap.size ≤ q) :
    Calls Tryd.prog 47 #[.slice (some ⟨v, 0, none⟩) 3 3] W fun e W' => e = .returned (.int .i64 (step1 n l x gd).2) ∧ ∃ F', StB w W' n l a h b g p (step1 n l x gd).1 gd F' ∧ ((step1 n l x gd).2 = 0 → W'.heap[d]? = some (.cells #[.int .i64 (nextN (l.drop gd)).2.1] 3 (0, 0))) := by
  have hN : (nextN (l.drop gd)).1.length ≤ 100000 := by
    have := next_text_len (l.drop gd)
    rw [List.length_drop] at this
    omega
  have hm := @take_may (nextN (l.drop gd)).1
  have hS0 : (nextN (l.drop gd)).2.2 ≠ 0 → step1 n l x gd = (x, (nextN (l.drop gd)).2.2) := fun h => if_pos h
  have hS1 : (nextN (l.drop gd)).2.2 = 0 → (takeG (nextN (l.drop gd)).1).2 ≠ 0 → step1 n l x gd = (x, (takeG (nextN (l.drop gd)).1).2) := fun h h1 => (if_neg (fun h2 => h2 h)).trans (if_pos h1)
  have hS2 : (nextN (l.drop gd)).2.2 = 0 → (takeG (nextN (l.drop gd)).1).2 = 0 → step1 n l x gd = stakeS n x (takeG (nextN (l.drop gd)).1).1 := fun h h1 => (if_neg (fun h2 => h2 h)).trans (if_neg (fun h2 => h2 h1))
  have H48 := fun W1 vc vd (R : Rec) (h : Al w W1 n l a h b g p x gd F c d q v vc vd R) => close48 W1 w.heap.size a b c d l gd vc vd hl hgd (Crc.laid_below HL h.st.below) h.st.cs h.st.cb h.hc h.hd (ne_types h.hc h.hd (by decide)) hlo.1 hlo.2.1
  generalize nextN (l.drop gd) = N at *
  obtain ⟨T, m, e1⟩ := N
  simp only at *
  have H49 := fun W1 vd (R : Rec) (h : Al w W1 n l a h b g p x gd F c d q v (.string (bs T)) vd R) => close49 W1 w.heap.size c q T R hN h.hc h.hq hlo.2.2
  generalize takeG T = U at *
  obtain ⟨R1, e2⟩ := U
  simp only at *
  have step : ∀ {W1 W2 : World} {S : Nat → Prop} {vc vd vc2 vd2 : Value} {R R2 : Rec}, Al w W1 n l a h b g p x gd F c d q v vc vd R → Kept W1 W2 S → (∀ k, S k → k = c ∨ k = d ∨ k = q) → Below w.heap.size W1 W2 → W2.heap[c]? = some (.cells #[vc2] 9 (0, 0)) → W2.heap[d]? = some (.cells #[vd2] 3 (0, 0)) → W2.heap[q]? = some (.cells R2.cells 51 (0, 0)) → Al w W2 n l a h b g p x gd F c d q v vc2 vd2 R2 := by
    intro W1 W2 S vc vd vc2 vd2 R R2 A hk hS hB h1 h2 h3
    have no : ∀ k, k ≠ c → k ≠ d → k ≠ q → ¬ S k := fun k n1 n2 n3 hs => by rcases hS k hs with e | e | e; exact n1 e; exact n2 e; exact n3 e
    refine ⟨stb_kept A.st hk (fun k hf => no k (fun e => hFc (e ▸ hf)) (fun e => hFd (e ▸ hf)) (fun e => hFq (e ▸ hf))) (no a hca.symm (ne_types A.st.cs A.hd (by decide)) (ne_types A.st.cs A.hq (by decide))) (no h (ne_types A.st.ch A.hc (by decide)) (ne_types A.st.ch A.hd (by decide)) hqh.symm)
      (no b (ne_types A.st.cb A.hc (by decide)) hdb.symm (ne_types A.st.cb A.hq (by decide))) (no p (ne_types A.st.cp A.hc (by decide)) (ne_types A.st.cp A.hd (by decide)) (ne_types A.st.cp A.hq (by decide))) (A.st.below.trans hB), h1, h2, h3, ?_⟩
    exact blk_kept A.hv hk (no v (ne_types A.hv A.hc (by decide)) (ne_types A.hv A.hd (by decide)) (ne_types A.hv A.hq (by decide)))
  refine (first_calls W v kF (cF a b c d p q)
    (fun j W1 => (j = 0 ∧ ∃ vc vd R, Al w W1 n l a h b g p x gd F c d q v vc vd R) ∨ (j = 1 ∧ e1 = 0 ∧ ∃ R, Al w W1 n l a h b g p x gd F c d q v (.string (bs T)) (.int .i64 m) R) ∨ (j = 2 ∧ e1 = 0 ∧ e2 = 0 ∧ ∃ vc, Al w W1 n l a h b g p x gd F c d q v vc (.int .i64 m) R1) ∨ (j = 3 ∧ (step1 n l x gd).2 = 0 ∧ W1.heap[v]? = some (.cells (rowF a b c d p q) 91 (0, 0)) ∧ W1.heap[d]? = some (.cells #[.int .i64 m] 3 (0, 0)) ∧ ∃ F', StB w W1 n l a h b g p (step1 n l x gd).1 gd F'))
    (fun vv W1 => vv = (step1 n l x gd).2 ∧ ∃ F', StB w W1 n l a h b g p (step1 n l x gd).1 gd F' ∧ ((step1 n l x gd).2 = 0 → W1.heap[d]? = some (.cells #[.int .i64 m] 3 (0, 0))))
    ?_ ?_ ?_ ?_ ?_).mono ?_
  · intro j hj args W1
    rcases (by omega : j = 0 ∨ j = 1 ∨ j = 2) with rfl | rfl | rfl
    · exact enter48 args W1
    · exact enter49 args W1
    · exact enter51 args W1
  · rintro j W1 (⟨_, _, _, _, h⟩ | ⟨_, _, _, h⟩ | ⟨_, _, _, _, h⟩ | ⟨_, _, h, _⟩)
    · exact h.hv
    · exact h.hv
    · exact h.hv
    · exact h
  · intro j hj W1 hI
    rcases hI with ⟨rfl, vc1, vd1, R, A⟩ | ⟨rfl, he1, R, A⟩ | ⟨rfl, he1, he2, vc1, A⟩ | ⟨rfl, _⟩
    · refine (H48 W1 vc1 vd1 R A).mono ?_
      rintro e W2 ⟨rfl, h1, h2, hk, hB⟩
      have A2 := step A hk (fun k h => by rcases h with h | h; exact Or.inl h; exact Or.inr (Or.inl h)) hB h1 h2 (blk_kept A.hq hk (by rintro (e | e); exact ne_types A.hq A.hc (by decide) e; exact ne_types A.hq A.hd (by decide) e))
      refine ⟨e1, rfl, fun h => Or.inr (Or.inl ⟨rfl, h, R, A2⟩), fun h => ?_⟩
      rw [hS0 h]
      exact ⟨rfl, F, A2.st, fun h0 => absurd h0 h⟩
    · refine (H49 W1 _ R A).mono ?_
      rintro e W2 ⟨rfl, h1, hk, hB⟩
      have A2 := step A hk (fun k h => Or.inr (Or.inr h)) hB (blk_kept A.hc hk (ne_types A.hc A.hq (by decide))) (blk_kept A.hd hk (ne_types A.hd A.hq (by decide))) h1
      refine ⟨e2, rfl, fun h => Or.inr (Or.inr (Or.inl ⟨rfl, he1, h, _, A2⟩)), fun h => ?_⟩
      rw [hS1 he1 h]
      exact ⟨rfl, F, A2.st, fun h0 => absurd h0 h⟩
    · refine (close51 W1 w.heap.size g p q n x F R1 A.st.sc A.st.below.size (may_frame (hm he2)) ⟨hx.frames, by omega, hx.player⟩ A.st.cp A.hq).mono ?_
      rintro e W2 ⟨rfl, hD⟩
      have hS := hS2 he1 he2
      rw [← hS] at hD
      obtain ⟨F1, h1, h2, h3⟩ := stb_did A.st hD
      refine ⟨(stakeS n x R1).2, rfl, fun h => Or.inr (Or.inr (Or.inr ⟨rfl, by rw [hS]; exact h, blk_kept A.hv h3 hFv, blk_kept A.hd h3 hFd, F1, h1⟩)), fun h => ⟨by rw [hS], F1, h1, fun h0 => absurd (by rw [hS] at h0; exact h0) h⟩⟩
    · omega
  · rintro W1 (⟨h, _⟩ | ⟨h, _⟩ | ⟨h, _⟩ | ⟨_, h0, _, hd, F1, h1⟩)
    · omega
    · omega
    · omega
    · exact ⟨h0.symm, F1, h1, fun _ => hd⟩
  · exact Or.inl ⟨rfl, vc, vd, R0, H⟩
  · rintro e W1 ⟨vv, rfl, rfl, F1, h1, h2⟩
    exact ⟨rfl, F1, h1, h2⟩
end Go.Proofs.YtnhjhaphfdlkfaaDoor.Sg
