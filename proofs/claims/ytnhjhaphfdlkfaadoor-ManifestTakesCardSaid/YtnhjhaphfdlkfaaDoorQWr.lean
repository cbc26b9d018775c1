/- What codec's Writer holds, and what its calls make of it: the contracts of put, U8, U16, U32, U64, Bytes. -/
import Derived.Test.YtnhjhaphfdlkfaaDoorProg
import Derived.Test.YtnhjhaphfdlkfaaDoorQWWords
import Derived.Test.YtnhjhaphfdlkfaaDoorQWLast
import Derived.Test.YtnhjhaphfdlkfaaDoorQWMore
import Derived.Test.YtnhjhaphfdlkfaaDoorQWKept
import Derived.WalkKit
import Derived.KernelRfl
import Derived.Deep.LoopGhost
import Derived.Deep.RegionLaw
import Derived.Lib.Hide
import Derived.OneCell
import Derived.IntWalk
set_option linter.unusedVariables false
namespace Go.Proofs.YtnhjhaphfdlkfaaDoor.Wr
open Go.RowKit Go.Proofs.YtnhjhaphfdlkfaaDoorW.PrintWords Go.Proofs.YtnhjhaphfdlkfaaDoorW.PrintLast Go.Proofs.YtnhjhaphfdlkfaaDoorW.PrintMore
/-- A writer at block g, its row from base on. -/
def IsW (W : World) (base g : Nat) (v : Value) (xs : List Int) : Prop :=
  W.heap[g]? = some (.cells #[v] 74 (0, 0)) ∧ W.ownsRow base 5 1 v xs.length (nums .u8 xs) ∧ base ≤ g
/-- The blocks that a writer may write. -/
def Foot (g : Nat) (v : Value) (k : Nat) : Prop := k = g ∨ v.ownBlock = some k
/-- One byte of a number. -/
def byteAt (n : Int) (i : Nat) : Int := (n / 2 ^ (8 * i)) % 256
def leBytes (n : Int) (k : Nat) : List Int := (List.range k).map (byteAt n)
theorem leBytes_succ (n : Int) (k : Nat) : leBytes n (k + 1) = leBytes n k ++ [byteAt n k] := by unfold leBytes; rw [List.range_succ, List.map_append]; rfl
theorem leBytes_len (n : Int) (k : Nat) : (leBytes n k).length = k := by simp [leBytes]
/-- What a call of the writer leaves. -/
def Wrote (w w' : World) (base g : Nat) (v : Value) (xs : List Int) : Prop :=
  ∃ v', IsW w' base g v' xs ∧ Kept w w' (Foot g v) ∧ Below base w w' ∧ (v'.ownBlock = v.ownBlock ∨ ∃ b, v'.ownBlock = some b ∧ w.heap.size ≤ b)
theorem info5 : (Tryd.prog.info? 5).map (fun i => (i.zero, i.size, i.bytes)) = some (some (.int .u8 0), 1, 1) := by kernel_rfl
theorem own_lt {w : World} {base e n : Nat} {v : Value} {xs : List Value} (h : w.ownsRow base e 1 v n xs) {k : Nat} (hk : v.ownBlock = some k) : k < w.heap.size := by
  rcases h.2 with ⟨rfl, _⟩ | ⟨g, cap, cur, rfl, _, hb, _⟩
  · simp [Value.ownBlock] at hk
  · simp [Value.ownBlock] at hk
    subst hk
    exact blk_lt hb
/-- A writer that has just been made. -/
theorem isw_new (w : World) : IsW (w.alloc (.cells #[.slice none 0 0] 74)) w.heap.size w.heap.size (.slice none 0 0) [] :=
  ⟨heap_alloc_new w _, ⟨rfl, Or.inl ⟨rfl, rfl⟩⟩, Nat.le_refl _⟩
theorem isw_drewN {w : World} {base g : Nat} {v : Value} {xs : List Int} (h : IsW w base g v xs) (n : Nat) : IsW (w.drewN n) base g v xs := h
theorem str_size (xs : List Int) : (strOfNums xs).size = xs.length := by unfold strOfNums ByteArray.size; simp
theorem isw_lt {w : World} {base g : Nat} {v : Value} {xs : List Int} (h : IsW w base g v xs) : g < w.heap.size := blk_lt h.1
theorem isw_ne {w : World} {base g : Nat} {v : Value} {xs : List Int} (h : IsW w base g v xs) : v.ownBlock ≠ some g := by
  intro e
  rcases h.2.1.2 with ⟨rfl, _⟩ | ⟨b, cap, cur, rfl, _, hb, _⟩
  · simp [Value.ownBlock] at e
  · simp [Value.ownBlock] at e
    subst e
    rw [h.1] at hb
    simp at hb
theorem isw_cell {w : World} {base g : Nat} {v : Value} {xs : List Int} (h : IsW w base g v xs) : w.cell? ⟨g, 0, none⟩ = some v := (blk_cell h.1 0).trans rfl
/-- A writer whose field has been stored anew. -/
theorem isw_stored {w1 : World} {base g : Nat} {v v1 : Value} {ys : List Int} (hb : w1.heap[g]? = some (.cells #[v] 74 (0, 0))) (hown : w1.ownsRow base 5 1 v1 ys.length (nums .u8 ys)) (hn : v1.ownBlock ≠ some g) (hge : base ≤ g) :
    IsW (w1.setCell ⟨g, 0, none⟩ v1) base g v1 ys := by
  refine ⟨one_setCell hb, ⟨hown.1, ?_⟩, hge⟩
  rcases hown.2 with h | ⟨b, cap, cur, rfl, h1, h2, h3⟩
  · exact Or.inl h
  · refine Or.inr ⟨b, cap, cur, rfl, h1, ?_, h3⟩
    rw [heap_setCell_other _ _ _ _ (by intro e; apply hn; simp [Value.ownBlock]; exact e)]
    exact h2
theorem own_shape {w : World} {base e n : Nat} {v : Value} {xs : List Value} (h : w.ownsRow base e 1 v (n + 1) xs) : ∃ g cap, v = .slice (some ⟨g, 0, none⟩) (n + 1) cap := by
  rcases h.2 with ⟨_, h0⟩ | ⟨g, cap, cur, rfl, _⟩
  · omega
  · exact ⟨g, cap, rfl⟩
/-- One byte more: the writer's field still holds the elder slice; once the new one is stored, the writer has the byte. -/
theorem wrote_step {w wr w1 : World} {base g : Nat} {v0 v v1 : Value} {xs : List Int} {u : Int}
    (hW : IsW wr base g v xs) (hK : Kept w wr (Foot g v0)) (hB : Below base w wr) (hv : v.ownBlock = v0.ownBlock ∨ ∃ b, v.ownBlock = some b ∧ w.heap.size ≤ b)
    (hown : w1.ownsRow base 5 1 v1 (xs.length + 1) (nums .u8 xs ++ [.int .u8 u])) (hg : (wr.drew).grownBy w1 v.ownBlock) (hat : v1.ownBlock = v.ownBlock ∨ ∃ b, v1.ownBlock = some b ∧ wr.heap.size ≤ b) :
    w1.cell? ⟨g, 0, none⟩ = some v ∧ w1.frozen? ⟨g, 0, none⟩ = false ∧ Wrote w (w1.setCell ⟨g, 0, none⟩ v1) base g v0 (xs ++ [u]) := by
  have hlt := isw_lt hW
  have hne := isw_ne hW
  have hb : w1.heap[g]? = some (.cells #[v] 74 (0, 0)) := (hg.block g hlt (fun e => hne e.symm)).trans hW.1
  refine ⟨(blk_cell hb 0).trans rfl, blk_frozen hb 0, v1, isw_stored hb ?_ ?_ hW.2.2, ?_, ?_, ?_⟩
  · rw [List.length_append, show nums .u8 (xs ++ [u]) = nums .u8 xs ++ [.int .u8 u] by simp [nums]]; exact hown
  · intro e
    rcases hat with h | ⟨b, h, hle⟩
    · exact hne (h.symm.trans e)
    · rw [e] at h; cases h; omega
  · refine Kept.setCell (Kept.of_grown (W := wr.drew) hg hK ?_) (Or.inl (Or.inl rfl)) v1
    intro k hk
    rcases hv with h | ⟨b, h, hle⟩
    · exact Or.inl (Or.inr (h.symm.trans hk))
    · rw [h] at hk; cases hk; exact Or.inr hle
  · refine ((hB.drew).grown hg (Nat.le_trans hW.2.2 (Nat.le_of_lt hlt)) (fun k hk => ?_)).setCell hW.2.2 v1
    rcases hW.2.1.2 with ⟨rfl, _⟩ | ⟨b, cap, cur, rfl, hge, _⟩
    · simp [Value.ownBlock] at hk
    · simp [Value.ownBlock] at hk; omega
  · rcases hat with h | ⟨b, h, hle⟩
    · rw [h]; exact hv
    · exact Or.inr ⟨b, h, Nat.le_trans hK.1 hle⟩
theorem alloc_drew (w : World) (o : Obj) : (w.alloc o).drew = w.drew.alloc o := rfl
theorem isw_alloc {w : World} {base g : Nat} {v : Value} {xs : List Int} (h : IsW w base g v xs) (o : Obj) : IsW (w.alloc o) base g v xs := by
  refine ⟨(Below.heap_alloc w o g (isw_lt h)).trans h.1, ⟨h.2.1.1, ?_⟩, h.2.2⟩
  rcases h.2.1.2 with h1 | ⟨b, cap, cur, rfl, h1, h2, h3⟩
  · exact Or.inl h1
  · exact Or.inr ⟨b, cap, cur, rfl, h1, (Below.heap_alloc w o b (blk_lt h2)).trans h2, h3⟩
/-- A block that was made behind the writer's own is as it was. -/
theorem kept_new {w w' : World} {base g : Nat} {v : Value} {xs : List Int} (h : IsW w base g v xs) (o : Obj) (hk : Kept (w.alloc o) w' (Foot g v)) : w'.heap[w.heap.size]? = some o := by
  refine (hk.2 _ (by simp) (fun hf => ?_)).trans (heap_alloc_new w o)
  rcases hf with hf | hf
  · have := isw_lt h; omega
  · have := own_lt h.2.1 hf; omega
set_option maxHeartbeats 1000000 in
set_option maxRecDepth 100000 in
theorem put64 (n : Int) (h0 : 0 ≤ n) (h1 : n < 18446744073709551616) (base g : Nat) (v : Value) (xs : List Int) (w : World) (hW : IsW w base g v xs) (hl : xs.length ≤ 1000000) :
    Calls Tryd.prog 56 #[.pointer (some ⟨g, 0, none⟩), .int .u64 n, .int .i64 8] w fun e w' => e = .returned (.tuple #[]) ∧ Wrote w w' base g v (xs ++ leBytes n 8) := by
  have HW := Lib.hid hW
  clear hW
  go_enter Tryd.func56, Tryd.ntmps56
  go_wp2
  go_loopw [6, 10] (fun _ i wr => ∃ k : Nat, k ≤ 8 ∧ i = .int .i64 k ∧ Wrote w wr base g v (xs ++ leBytes n k)) (fun _ i _ => 8 - (intOf i).toNat)
  case atStart => exact ⟨0, by omega, rfl, v, by simpa [leBytes] using HW.out, Kept.refl _ _, Below.refl _ _, Or.inl rfl⟩
  case round =>
    obtain ⟨k, hk, rfl, v2, hW2, hK2, hB2, hv2⟩ := hrel
    by_cases hlt : k < 8
    · have hc := isw_cell hW2
      have hg := isw_lt hW2
      have HW2 := Lib.hid hW2
      have HK2 := Lib.hid hK2
      have HV2 := Lib.hid hv2
      have HB2 := Lib.hid hB2
      clear hW2 hK2 hv2 hB2
      have hs8 : Op.shift BinOp.shr IntKind.u64 n IntKind.i64 (IntKind.i64.wrap (8 * (k : Int))) = pure (.int .u64 (n / 2 ^ (8 * k))) := by
        rw [IntWalk.i64_in _ (by omega), shift_shr _ _ _ _ (by omega) (by show 8 * (k : Int) ≤ 64; omega)]
        rw [show (8 * (k : Int)).toNat = 8 * k by omega]
      have hbase : base ≤ wr.heap.size := Nat.le_trans HW2.out.2.2 (Nat.le_of_lt hg)
      have HL := Lib.hid (show ((xs ++ leBytes n k).length + 1) * 1 ≤ 140737488355328 by rw [List.length_append, leBytes_len]; omega)
      go_wp2
      go_region_law (rw [alloc_drew]; refine step_append_cells (w0 := wr.drew) base (by rfl) (.tmp 17) (.tmp 23) 72 5 (.int .u8 0) 1 1 (by rfl) Tryd.underlying72 info5 rfl (by decide) (by decide) v2 (xs ++ leBytes n k).length (nums .u8 (xs ++ leBytes n k)) [.int .u8 (IntKind.u8.wrap (n / 2 ^ (8 * k)))] (by simp [Act.eval]) (by simp [Act.eval]) rfl (by intro u hu; simp at hu; subst hu; rfl) (by exact HW2.out.2.1) (Below.refl _ _) (by exact hbase) HL.out ?_; intro v1 w1 hown1 _ hg1 hat1; obtain ⟨g1, cap1, rfl⟩ := own_shape hown1; have HW1 := Lib.hid (wrote_step HW2.out HK2.out HB2.out HV2.out hown1 hg1 hat1); have hc1 := HW1.out.1; have hf1 := HW1.out.2.1; clear hown1 hg1 hat1)
      go_wp2
      all_goals
        have HW9 := HW1.out.2.2
        clear hc1 hf1
        rw [IntKind.wrap_u8] at HW9
        refine ⟨⟨k + 1, by omega, by go_num, ?_⟩, by simp [intOf]; omega⟩
        rw [leBytes_succ, ← List.append_assoc]
        rw [List.length_append] at HW9
        exact HW9
    · go_wp2
      go_end0
      have hk8 : k = 8 := by omega
      subst hk8
      exact ⟨rfl, v2, hW2, hK2, hB2, hv2⟩
set_option maxHeartbeats 1000000 in
set_option maxRecDepth 100000 in
theorem put8 (n : Int) (h0 : 0 ≤ n) (h1 : n < 256) (base g : Nat) (v : Value) (xs : List Int) (w : World) (hW : IsW w base g v xs) (hl : xs.length ≤ 1000000) :
    Calls Tryd.prog 57 #[.pointer (some ⟨g, 0, none⟩), .int .u8 n, .int .i64 1] w fun e w' => e = .returned (.tuple #[]) ∧ Wrote w w' base g v (xs ++ leBytes n 1) := by
  have HW := Lib.hid hW
  clear hW
  go_enter Tryd.func57, Tryd.ntmps57
  go_wp2
  go_loopw [6, 10] (fun _ i wr => ∃ k : Nat, k ≤ 1 ∧ i = .int .i64 k ∧ Wrote w wr base g v (xs ++ leBytes n k)) (fun _ i _ => 1 - (intOf i).toNat)
  case atStart => exact ⟨0, by omega, rfl, v, by simpa [leBytes] using HW.out, Kept.refl _ _, Below.refl _ _, Or.inl rfl⟩
  case round =>
    obtain ⟨k, hk, rfl, v2, hW2, hK2, hB2, hv2⟩ := hrel
    by_cases hlt : k < 1
    · have hc := isw_cell hW2
      have hg := isw_lt hW2
      have HW2 := Lib.hid hW2
      have HK2 := Lib.hid hK2
      have HV2 := Lib.hid hv2
      have HB2 := Lib.hid hB2
      clear hW2 hK2 hv2 hB2
      have hs8 : Op.shift BinOp.shr IntKind.u64 (IntKind.u64.wrap n) IntKind.i64 (IntKind.i64.wrap (8 * (k : Int))) = pure (.int .u64 (n / 2 ^ (8 * k))) := by
        rw [IntWalk.u64_in n ⟨h0, by omega⟩, IntWalk.i64_in _ (by omega), shift_shr _ _ _ _ (by omega) (by show 8 * (k : Int) ≤ 64; omega)]
        rw [show (8 * (k : Int)).toNat = 8 * k by omega]
      have hbase : base ≤ wr.heap.size := Nat.le_trans HW2.out.2.2 (Nat.le_of_lt hg)
      have HL := Lib.hid (show ((xs ++ leBytes n k).length + 1) * 1 ≤ 140737488355328 by rw [List.length_append, leBytes_len]; omega)
      go_wp2
      go_region_law (rw [alloc_drew]; refine step_append_cells (w0 := wr.drew) base (by rfl) (.tmp 17) (.tmp 24) 72 5 (.int .u8 0) 1 1 (by rfl) Tryd.underlying72 info5 rfl (by decide) (by decide) v2 (xs ++ leBytes n k).length (nums .u8 (xs ++ leBytes n k)) [.int .u8 (IntKind.u8.wrap (n / 2 ^ (8 * k)))] (by simp [Act.eval]) (by simp [Act.eval]) rfl (by intro u hu; simp at hu; subst hu; rfl) (by exact HW2.out.2.1) (Below.refl _ _) (by exact hbase) HL.out ?_; intro v1 w1 hown1 _ hg1 hat1; obtain ⟨g1, cap1, rfl⟩ := own_shape hown1; have HW1 := Lib.hid (wrote_step HW2.out HK2.out HB2.out HV2.out hown1 hg1 hat1); have hc1 := HW1.out.1; have hf1 := HW1.out.2.1; clear hown1 hg1 hat1)
      go_wp2
      all_goals
        have HW9 := HW1.out.2.2
        clear hc1 hf1
        rw [IntKind.wrap_u8] at HW9
        refine ⟨⟨k + 1, by omega, by go_num, ?_⟩, by simp [intOf]; omega⟩
        rw [leBytes_succ, ← List.append_assoc]
        rw [List.length_append] at HW9
        exact HW9
    · go_wp2
      go_end0
      have hk8 : k = 1 := by omega
      subst hk8
      exact ⟨rfl, v2, hW2, hK2, hB2, hv2⟩
set_option maxHeartbeats 1000000 in
set_option maxRecDepth 100000 in
theorem put16 (n : Int) (h0 : 0 ≤ n) (h1 : n < 65536) (base g : Nat) (v : Value) (xs : List Int) (w : World) (hW : IsW w base g v xs) (hl : xs.length ≤ 1000000) :
    Calls Tryd.prog 80 #[.pointer (some ⟨g, 0, none⟩), .int .u16 n, .int .i64 2] w fun e w' => e = .returned (.tuple #[]) ∧ Wrote w w' base g v (xs ++ leBytes n 2) := by
  have HW := Lib.hid hW
  clear hW
  go_enter Tryd.func80, Tryd.ntmps80
  go_wp2
  go_loopw [6, 10] (fun _ i wr => ∃ k : Nat, k ≤ 2 ∧ i = .int .i64 k ∧ Wrote w wr base g v (xs ++ leBytes n k)) (fun _ i _ => 2 - (intOf i).toNat)
  case atStart => exact ⟨0, by omega, rfl, v, by simpa [leBytes] using HW.out, Kept.refl _ _, Below.refl _ _, Or.inl rfl⟩
  case round =>
    obtain ⟨k, hk, rfl, v2, hW2, hK2, hB2, hv2⟩ := hrel
    by_cases hlt : k < 2
    · have hc := isw_cell hW2
      have hg := isw_lt hW2
      have HW2 := Lib.hid hW2
      have HK2 := Lib.hid hK2
      have HV2 := Lib.hid hv2
      have HB2 := Lib.hid hB2
      clear hW2 hK2 hv2 hB2
      have hs8 : Op.shift BinOp.shr IntKind.u64 (IntKind.u64.wrap n) IntKind.i64 (IntKind.i64.wrap (8 * (k : Int))) = pure (.int .u64 (n / 2 ^ (8 * k))) := by
        rw [IntWalk.u64_in n ⟨h0, by omega⟩, IntWalk.i64_in _ (by omega), shift_shr _ _ _ _ (by omega) (by show 8 * (k : Int) ≤ 64; omega)]
        rw [show (8 * (k : Int)).toNat = 8 * k by omega]
      have hbase : base ≤ wr.heap.size := Nat.le_trans HW2.out.2.2 (Nat.le_of_lt hg)
      have HL := Lib.hid (show ((xs ++ leBytes n k).length + 1) * 1 ≤ 140737488355328 by rw [List.length_append, leBytes_len]; omega)
      go_wp2
      go_region_law (rw [alloc_drew]; refine step_append_cells (w0 := wr.drew) base (by rfl) (.tmp 17) (.tmp 24) 72 5 (.int .u8 0) 1 1 (by rfl) Tryd.underlying72 info5 rfl (by decide) (by decide) v2 (xs ++ leBytes n k).length (nums .u8 (xs ++ leBytes n k)) [.int .u8 (IntKind.u8.wrap (n / 2 ^ (8 * k)))] (by simp [Act.eval]) (by simp [Act.eval]) rfl (by intro u hu; simp at hu; subst hu; rfl) (by exact HW2.out.2.1) (Below.refl _ _) (by exact hbase) HL.out ?_; intro v1 w1 hown1 _ hg1 hat1; obtain ⟨g1, cap1, rfl⟩ := own_shape hown1; have HW1 := Lib.hid (wrote_step HW2.out HK2.out HB2.out HV2.out hown1 hg1 hat1); have hc1 := HW1.out.1; have hf1 := HW1.out.2.1; clear hown1 hg1 hat1)
      go_wp2
      all_goals
        have HW9 := HW1.out.2.2
        clear hc1 hf1
        rw [IntKind.wrap_u8] at HW9
        refine ⟨⟨k + 1, by omega, by go_num, ?_⟩, by simp [intOf]; omega⟩
        rw [leBytes_succ, ← List.append_assoc]
        rw [List.length_append] at HW9
        exact HW9
    · go_wp2
      go_end0
      have hk8 : k = 2 := by omega
      subst hk8
      exact ⟨rfl, v2, hW2, hK2, hB2, hv2⟩
set_option maxHeartbeats 1000000 in
set_option maxRecDepth 100000 in
theorem put32 (n : Int) (h0 : 0 ≤ n) (h1 : n < 4294967296) (base g : Nat) (v : Value) (xs : List Int) (w : World) (hW : IsW w base g v xs) (hl : xs.length ≤ 1000000) :
    Calls Tryd.prog 81 #[.pointer (some ⟨g, 0, none⟩), .int .u32 n, .int .i64 4] w fun e w' => e = .returned (.tuple #[]) ∧ Wrote w w' base g v (xs ++ leBytes n 4) := by
  have HW := Lib.hid hW
  clear hW
  go_enter Tryd.func81, Tryd.ntmps81
  go_wp2
  go_loopw [6, 10] (fun _ i wr => ∃ k : Nat, k ≤ 4 ∧ i = .int .i64 k ∧ Wrote w wr base g v (xs ++ leBytes n k)) (fun _ i _ => 4 - (intOf i).toNat)
  case atStart => exact ⟨0, by omega, rfl, v, by simpa [leBytes] using HW.out, Kept.refl _ _, Below.refl _ _, Or.inl rfl⟩
  case round =>
    obtain ⟨k, hk, rfl, v2, hW2, hK2, hB2, hv2⟩ := hrel
    by_cases hlt : k < 4
    · have hc := isw_cell hW2
      have hg := isw_lt hW2
      have HW2 := Lib.hid hW2
      have HK2 := Lib.hid hK2
      have HV2 := Lib.hid hv2
      have HB2 := Lib.hid hB2
      clear hW2 hK2 hv2 hB2
      have hs8 : Op.shift BinOp.shr IntKind.u64 (IntKind.u64.wrap n) IntKind.i64 (IntKind.i64.wrap (8 * (k : Int))) = pure (.int .u64 (n / 2 ^ (8 * k))) := by
        rw [IntWalk.u64_in n ⟨h0, by omega⟩, IntWalk.i64_in _ (by omega), shift_shr _ _ _ _ (by omega) (by show 8 * (k : Int) ≤ 64; omega)]
        rw [show (8 * (k : Int)).toNat = 8 * k by omega]
      have hbase : base ≤ wr.heap.size := Nat.le_trans HW2.out.2.2 (Nat.le_of_lt hg)
      have HL := Lib.hid (show ((xs ++ leBytes n k).length + 1) * 1 ≤ 140737488355328 by rw [List.length_append, leBytes_len]; omega)
      go_wp2
      go_region_law (rw [alloc_drew]; refine step_append_cells (w0 := wr.drew) base (by rfl) (.tmp 17) (.tmp 24) 72 5 (.int .u8 0) 1 1 (by rfl) Tryd.underlying72 info5 rfl (by decide) (by decide) v2 (xs ++ leBytes n k).length (nums .u8 (xs ++ leBytes n k)) [.int .u8 (IntKind.u8.wrap (n / 2 ^ (8 * k)))] (by simp [Act.eval]) (by simp [Act.eval]) rfl (by intro u hu; simp at hu; subst hu; rfl) (by exact HW2.out.2.1) (Below.refl _ _) (by exact hbase) HL.out ?_; intro v1 w1 hown1 _ hg1 hat1; obtain ⟨g1, cap1, rfl⟩ := own_shape hown1; have HW1 := Lib.hid (wrote_step HW2.out HK2.out HB2.out HV2.out hown1 hg1 hat1); have hc1 := HW1.out.1; have hf1 := HW1.out.2.1; clear hown1 hg1 hat1)
      go_wp2
      all_goals
        have HW9 := HW1.out.2.2
        clear hc1 hf1
        rw [IntKind.wrap_u8] at HW9
        refine ⟨⟨k + 1, by omega, by go_num, ?_⟩, by simp [intOf]; omega⟩
        rw [leBytes_succ, ← List.append_assoc]
        rw [List.length_append] at HW9
        exact HW9
    · go_wp2
      go_end0
      have hk8 : k = 4 := by omega
      subst hk8
      exact ⟨rfl, v2, hW2, hK2, hB2, hv2⟩
set_option maxHeartbeats 1000000 in
set_option maxRecDepth 100000 in
theorem wBytes (base g : Nat) (v : Value) (xs : List Int) (w : World) (hW : IsW w base g v xs) (hl : xs.length ≤ 1000000) :
    Calls Tryd.prog 30 #[.pointer (some ⟨g, 0, none⟩)] w fun e w' => e = .returned (.string (strOfNums xs)) ∧ Drawn0 w w' := by
  have hc := isw_cell hW
  have hcv := own_string (P := Tryd.prog) Tryd.underlying72 Tryd.underlying5 Tryd.underlying9 hW.2.1
  have HW := Lib.hid hW
  clear hW
  go_enter Tryd.func30, Tryd.ntmps30
  go_wp2
  go_ret
  exact ⟨rfl, Drawn0.refl _⟩
set_option maxHeartbeats 1000000 in
set_option maxRecDepth 100000 in
theorem wU64 (n : Int) (h0 : 0 ≤ n) (h1 : n < 18446744073709551616) (base g : Nat) (v : Value) (xs : List Int) (w : World) (hW : IsW w base g v xs) (hl : xs.length ≤ 1000000) :
    Calls Tryd.prog 27 #[.pointer (some ⟨g, 0, none⟩), .int .u64 n] w fun e w' => e = .returned (.tuple #[]) ∧ Wrote w w' base g v (xs ++ leBytes n 8) := by
  have HW := Lib.hid hW
  clear hW
  go_enter Tryd.func27, Tryd.ntmps27
  go_wp2_with fail
  refine (put64 n h0 h1 base g v xs _ HW.out hl).mono ?_
  rintro e w1 ⟨rfl, hw⟩
  have HQ := Lib.hid hw
  clear hw
  go_wp2
  go_end0
  exact ⟨rfl, HQ.out⟩
set_option maxHeartbeats 1000000 in
set_option maxRecDepth 100000 in
theorem wU8 (n : Int) (h0 : 0 ≤ n) (h1 : n < 256) (base g : Nat) (v : Value) (xs : List Int) (w : World) (hW : IsW w base g v xs) (hl : xs.length ≤ 1000000) :
    Calls Tryd.prog 28 #[.pointer (some ⟨g, 0, none⟩), .int .u8 n] w fun e w' => e = .returned (.tuple #[]) ∧ Wrote w w' base g v (xs ++ leBytes n 1) := by
  have HW := Lib.hid hW
  clear hW
  go_enter Tryd.func28, Tryd.ntmps28
  go_wp2_with fail
  refine (put8 n h0 h1 base g v xs _ HW.out hl).mono ?_
  rintro e w1 ⟨rfl, hw⟩
  have HQ := Lib.hid hw
  clear hw
  go_wp2
  go_end0
  exact ⟨rfl, HQ.out⟩
set_option maxHeartbeats 1000000 in
set_option maxRecDepth 100000 in
theorem wU16 (n : Int) (h0 : 0 ≤ n) (h1 : n < 65536) (base g : Nat) (v : Value) (xs : List Int) (w : World) (hW : IsW w base g v xs) (hl : xs.length ≤ 1000000) :
    Calls Tryd.prog 58 #[.pointer (some ⟨g, 0, none⟩), .int .u16 n] w fun e w' => e = .returned (.tuple #[]) ∧ Wrote w w' base g v (xs ++ leBytes n 2) := by
  have HW := Lib.hid hW
  clear hW
  go_enter Tryd.func58, Tryd.ntmps58
  go_wp2_with fail
  refine (put16 n h0 h1 base g v xs _ HW.out hl).mono ?_
  rintro e w1 ⟨rfl, hw⟩
  have HQ := Lib.hid hw
  clear hw
  go_wp2
  go_end0
  exact ⟨rfl, HQ.out⟩
set_option maxHeartbeats 1000000 in
set_option maxRecDepth 100000 in
theorem wU32 (n : Int) (h0 : 0 ≤ n) (h1 : n < 4294967296) (base g : Nat) (v : Value) (xs : List Int) (w : World) (hW : IsW w base g v xs) (hl : xs.length ≤ 1000000) :
    Calls Tryd.prog 59 #[.pointer (some ⟨g, 0, none⟩), .int .u32 n] w fun e w' => e = .returned (.tuple #[]) ∧ Wrote w w' base g v (xs ++ leBytes n 4) := by
  have HW := Lib.hid hW
  clear hW
  go_enter Tryd.func59, Tryd.ntmps59
  go_wp2_with fail
  refine (put32 n h0 h1 base g v xs _ HW.out hl).mono ?_
  rintro e w1 ⟨rfl, hw⟩
  have HQ := Lib.hid hw
  clear hw
  go_wp2
  go_end0
  exact ⟨rfl, HQ.out⟩
end Go.Proofs.YtnhjhaphfdlkfaaDoor.Wr
