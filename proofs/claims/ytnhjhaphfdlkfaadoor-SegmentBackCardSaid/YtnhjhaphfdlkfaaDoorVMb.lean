/- crc.step: what it makes of a number and a byte, given that the table holds what the program's text lays. -/
import Derived.Test.YtnhjhaphfdlkfaaDoorProg
import Derived.Test.YtnhjhaphfdlkfaaDoorVMa
import Derived.WalkKit
import Derived.KernelRfl
import Derived.Deep.LoopGhost
import Derived.Lib.Hide
import Derived.IntWalk
import Derived.Test.YtnhjhaphfdlkfaaDoorRows
import Derived.ProofKit
import Derived.OpenShut
import Derived.ChangeOld
import Derived.Below
import Derived.SizedLaws
import Derived.Handed
import Derived.LaidByTextLater
import Derived.Deep.RegionLaw
import Derived.OneCell
import Derived.Deep.Draws
import Derived.Deep.AppendLies
import Derived.Maps.AppendAt
import Derived.OwnWalk
import Derived.Laws.BytesArg
import Derived.Laws.MakeOwn
import Derived.Laws.OwnMore
import Derived.Deep.OwnRows
import Derived.Tactics
import Derived.Lib.ConvBytes
import Derived.Laws.Slices
import Derived.RowKit3
import Derived.Deep.QuietTactic
import Derived.BigQuiet
import Derived.WideLaws
import Derived.Deep.DeepCutAuto
import Derived.Deep.CutBlock
import Derived.Deep.RegionHeld3
import Derived.Laws.Rows
import Derived.Lib.AppendStr
import Derived.ArgAppend
import Derived.Laws.IdiomCopy
import Derived.OrdersHeld
import Derived.Laws.BitsLemmas
import Derived.RowKit
set_option linter.unusedVariables false
namespace Go.Proofs.YtnhjhaphfdlkfaaDoor.Crc
open Go.RowKit Go.Proofs.YtnhjhaphfdlkfaaDoorW.PrintWords Go.Proofs.YtnhjhaphfdlkfaaDoorW.PrintLast Go.Proofs.YtnhjhaphfdlkfaaDoorW.PrintMore
/-- The table, as the program's text has it. -/
def tabL : List Int := [0, 498536548, 997073096, 651767980, 1994146192, 1802195444, 1303535960, 1342533948, 3988292384, 4027552580, 3604390888, 3412177804, 2607071920, 2262029012, 2685067896, 3183342108]
def tab (i : Int) : Int := tabL.getD i.toNat 0
/-- The table lies where the variable lies. -/
def Laid (w : World) : Prop := ∀ i, i < 16 → w.cell? ⟨0, i, none⟩ = some (.int .u32 (tabL.getD i 0))
theorem laid_lt {w : World} (h : Laid w) : 0 < w.heap.size := World.block_lt_of_cell? w ⟨0, 0, none⟩ (h 0 (by decide))
theorem laid_below {w w' : World} (h : Laid w) (hb : Below w.heap.size w w') : Laid w' := fun i hi => by
  have := hb.cell (p := ⟨0, i, none⟩) (laid_lt h)
  rw [this]; exact h i hi
theorem laid_drew {w : World} (h : Laid w) : Laid w.drew := fun i hi => h i hi
theorem laid_drewN {w : World} (h : Laid w) (n : Nat) : Laid (w.drewN n) := fun i hi => h i hi
theorem and15 (x : Int) : 0 ≤ Go.bits .and .u32 x 15 ∧ Go.bits .and .u32 x 15 < 16 := by
  have e : (BitVec.ofInt 32 (15 : Int)).toNat = 15 := by decide
  have h : (BitVec.ofInt 32 x &&& BitVec.ofInt 32 15).toNat < 16 := by
    rw [BitVec.toNat_and, e]
    exact Nat.and_lt_two_pow (n := 4) _ (by decide)
  show 0 ≤ IntKind.u32.wrap (((BitVec.ofInt 32 x &&& BitVec.ofInt 32 15).toNat : Nat) : Int) ∧ IntKind.u32.wrap (((BitVec.ofInt 32 x &&& BitVec.ofInt 32 15).toNat : Nat) : Int) < 16
  generalize (BitVec.ofInt 32 x &&& BitVec.ofInt 32 15).toNat = n at h
  rw [IntKind.wrap_u32]
  omega
/-- Half a step: by four bits. -/
def half (c : Int) : Int := Go.bits .xor .u32 (tab (Go.bits .and .u32 c 15)) (c / 16)
def stepI (c b : Int) : Int := half (half (Go.bits .xor .u32 c b))
theorem look (w : World) (h : Laid w) (i : Int) (h0 : 0 ≤ i) (h1 : i < 16) : w.cell? ⟨0, i.toNat, none⟩ = some (.int .u32 (tab i)) := h i.toNat (by omega)
set_option maxHeartbeats 1000000 in
set_option maxRecDepth 100000 in
theorem step_calls (c b : Int) (hb0 : 0 ≤ b) (hb1 : b < 256) (w : World) (HL : Laid w) :
    Calls Tryd.prog 82 #[.int .u32 c, .int .u8 b] w fun e w' => e = .returned (.int .u32 (stepI c b)) ∧ Drawn0 w w' := by
  obtain ⟨p0, p1⟩ := and15 (Go.bits .xor .u32 c b)
  obtain ⟨q0, q1⟩ := and15 (half (Go.bits .xor .u32 c b))
  have hp := look w HL _ p0 p1
  have hq := look w HL _ q0 q1
  have HL2 := Lib.hid HL
  clear HL
  unfold half at q0 q1 hq
  go_enter Tryd.func82, Tryd.ntmps82
  go_wp2
  go_ret
  exact ⟨rfl, Drawn0.refl _⟩
end Go.Proofs.YtnhjhaphfdlkfaaDoor.Crc
/- What the row's premise on the table says of memory; a start in which it holds. -/
set_option linter.unusedVariables false
namespace Go.Proofs.YtnhjhaphfdlkfaaDoor.LaidAt
open Go.ChangeShapes Go.WideShapes Go.ChangeAt Go.RowKit
theorem own : ownKnob Tryd.prog.godebug = none := by kernel_rfl
theorem named : Tryd.prog.globalNamed "hindcast/crc.steps" = some 0 := by kernel_rfl
theorem typed : (Tryd.prog.globals[0]?).map (·.type) = some 159 := by kernel_rfl
theorem under159 : Tryd.prog.underlying 159 = some (.array 16 120) := by kernel_rfl
theorem cells159 : Tryd.prog.cellsOf 159 = 16 := by kernel_rfl
theorem cells120 : Tryd.prog.cellsOf 120 = 1 := by kernel_rfl
theorem int_of_trod {H : Type} {enc : TypeId × Value → H} {P : Program} {w : World} {base : Nat} {sp : Nat → Bool} {held : Bool} {fuel : Nat} {t : TypeId} {k : IntKind} {c : Value} {y : DataW H × List MemPlace}
    (ht : P.underlying t = some (.int k)) (h : DataW.trod enc P w base sp held fuel t [c] = some y) : ∃ n, c = .int k n ∧ y = (.lit (.int k n), []) := by
  cases fuel with
  | zero => simp [DataW.trod] at h
  | succ fuel =>
    cases c <;> simp [DataW.trod, ht] at h
    rename_i k' n
    obtain ⟨⟨rfl, _⟩, rfl⟩ := h
    exact ⟨n, rfl, rfl⟩
theorem data_is {H : Type} : (Rows.laid_hindcast_crc_steps : DataW H) = .agg (Crc.tabL.map fun n => .lit (.int .u32 n)) := rfl
theorem laid_of {W : World} (h : laidMet Tryd.prog [("hindcast/crc.steps", Rows.laid_hindcast_crc_steps)] W) : Crc.Laid W := by
  obtain ⟨ps, ⟨g, t, cs, fuel, p, q, hg, ht, hvar, hd, _, _⟩, _⟩ := h
  obtain rfl := Option.some.inj (named.symm.trans hg)
  obtain rfl := Option.some.inj (typed.symm.trans ht)
  obtain ⟨xs, m, rfl, hx, hl, hn, hi⟩ := DataW.trod_array under159 hd
  rw [data_is] at hx
  simp only [Prod.mk.injEq, DataW.agg.injEq] at hx
  obtain ⟨hx, _⟩ := hx
  rw [cells159] at hl
  intro i h16
  have h1 := hi i h16
  rw [cells120, Nat.mul_one] at h1
  have hlt : i < cs.toList.length := by omega
  have ht1 : (cs.toList.drop i).take 1 = [cs.toList[i]] := by
    rw [List.drop_eq_getElem_cons hlt]; rfl
  rw [ht1] at h1
  have hxi : xs[i]? = some (xs[i]'(by omega)) := List.getElem?_eq_getElem (by omega)
  rw [hxi] at h1
  obtain ⟨n, hc, hy⟩ := int_of_trod (k := .u32) Tryd.underlying120 h1
  have e : ((Crc.tabL.map fun n => (DataW.lit (.int .u32 n) : DataW Unit)))[i]? = (xs.map (·.1))[i]? := by rw [hx]
  rw [List.getElem?_map, List.getElem?_map, hxi, hy] at e
  have htl : i < Crc.tabL.length := h16
  rw [List.getElem?_eq_getElem htl] at e
  simp at e
  have hv := World.var?_cell named hvar i
  rw [hv, ← Array.getElem?_toList, List.getElem?_eq_getElem hlt, hc, ← e, List.getD_eq_getElem?_getD, List.getElem?_eq_getElem htl]
  rfl
def tabCells : Array Value := (Crc.tabL.map fun n => Value.int .u32 n).toArray
/-- A start in which the table lies as the program's text has it. -/
noncomputable def laidWorld (os : Os) : World :=
  { World.holding Tryd.prog os ⟨#[], #[], []⟩ with heap := (World.holding Tryd.prog os ⟨#[], #[], []⟩).heap.modify 0 fun
      | .cells _ t frozen => .cells tabCells t frozen
      | o => o }
def XL : World → Array Value → Prop := fun w _ => laidMet Tryd.prog [("hindcast/crc.steps", Rows.laid_hindcast_crc_steps)] w
theorem XL_heap (w w' : World) (args : Array Value) (hh : w.heap = w'.heap) (h : XL w args) : XL w' args := laidMet.of_heap hh h
theorem row0 (os : Os) (args : Array Value) : ((laidWorld os).forCall (fun _ _ => 0) ⟨#[], args, []⟩).memory.heap[0]? = some (.cells tabCells 159 (0, 0)) := by kernel_rfl
set_option maxRecDepth 100000 in
theorem met (os : Os) (args : Array Value) : laidMet Tryd.prog [("hindcast/crc.steps", Rows.laid_hindcast_crc_steps)] ((laidWorld os).forCall (fun _ _ => 0) ⟨#[], args, []⟩).memory := by
  refine ⟨_, ⟨0, 159, tabCells, 8, [], [], by kernel_rfl, by kernel_rfl, by kernel_rfl, by kernel_rfl, rfl, rfl⟩, by decide, fun b off h => ?_⟩
  have h' : MemPlace.cell b off ∈ [MemPlace.cell 0 0, .cell 0 1, .cell 0 2, .cell 0 3, .cell 0 4, .cell 0 5, .cell 0 6, .cell 0 7, .cell 0 8, .cell 0 9, .cell 0 10, .cell 0 11, .cell 0 12, .cell 0 13, .cell 0 14, .cell 0 15] := h
  have hb : b = 0 := by
    simp at h'
    omega
  subst hb
  refine ⟨⟨_, _, row0 os args⟩, fun u v hc => ?_⟩
  simp only [World.cell?, row0 os args] at hc
  simp at h'
  rcases h' with rfl | rfl | rfl | rfl | rfl | rfl | rfl | rfl | rfl | rfl | rfl | rfl | rfl | rfl | rfl | rfl <;> simp [tabCells, Crc.tabL] at hc
end Go.Proofs.YtnhjhaphfdlkfaaDoor.LaidAt
/- What codec's Writer holds, and what its calls make of it: the contracts of put, U8, U16, U32, U64, Bytes. -/
set_option linter.unusedVariables false
namespace Go.Proofs.YtnhjhaphfdlkfaaDoor.Wr
open Go.RowKit Go.Proofs.YtnhjhaphfdlkfaaDoorW.PrintWords Go.Proofs.YtnhjhaphfdlkfaaDoorW.PrintLast Go.Proofs.YtnhjhaphfdlkfaaDoorW.PrintMore
/-- A writer at block g, its row from base on. -/
def IsW (W : World) (base g : Nat) (v : Value) (xs : List Int) : Prop :=
  W.heap[g]? = some (.cells #[v] 74 (0, 0)) ∧ W.ownsRow base 5 1 v xs.length (nums .u8 xs) ∧ base ≤ g
/-- The blocks that a writer may write. -/
def Foot (g : Nat) (v : Value) (k : Nat) : Prop := k = g ∨ v.ownBlock = some k
/-- One byte of a number. -/
def byteAt (n : Int) (i : Nat) : Int := (n / 2 ^ (8 * i)) % 256
def leBytes (n : Int) (k : Nat) : List Int := (List.range k).map (byteAt n)
theorem leBytes_succ (n : Int) (k : Nat) : leBytes n (k + 1) = leBytes n k ++ [byteAt n k] := by unfold leBytes; rw [List.range_succ, List.map_append]; rfl
theorem leBytes_len (n : Int) (k : Nat) : (leBytes n k).length = k := by simp [leBytes]
/-- What a call of the writer leaves. -/
def Wrote (w w' : World) (base g : Nat) (v : Value) (xs : List Int) : Prop :=
  ∃ v', IsW w' base g v' xs ∧ Kept w w' (Foot g v) ∧ Below base w w' ∧ (v'.ownBlock = v.ownBlock ∨ ∃ b, v'.ownBlock = some b ∧ w.heap.size ≤ b)
theorem info5 : (Tryd.prog.info? 5).map (fun i => (i.zero, i.size, i.bytes)) = some (some (.int .u8 0), 1, 1) := by kernel_rfl
theorem own_lt {w : World} {base e n : Nat} {v : Value} {xs : List Value} (h : w.ownsRow base e 1 v n xs) {k : Nat} (hk : v.ownBlock = some k) : k < w.heap.size := by
  rcases h.2 with ⟨rfl, _⟩ | ⟨g, cap, cur, rfl, _, hb, _⟩
  · simp [Value.ownBlock] at hk
  · simp [Value.ownBlock] at hk
    subst hk
    exact blk_lt hb
/-- A writer that has just been made. -/
theorem isw_new (w : World) : IsW (w.alloc (.cells #[.slice none 0 0] 74)) w.heap.size w.heap.size (.slice none 0 0) [] :=
  ⟨heap_alloc_new w _, ⟨rfl, Or.inl ⟨rfl, rfl⟩⟩, Nat.le_refl _⟩
theorem isw_drewN {w : World} {base g : Nat} {v : Value} {xs : List Int} (h : IsW w base g v xs) (n : Nat) : IsW (w.drewN n) base g v xs := h
theorem str_size (xs : List Int) : (strOfNums xs).size = xs.length := by unfold strOfNums ByteArray.size; simp
theorem isw_lt {w : World} {base g : Nat} {v : Value} {xs : List Int} (h : IsW w base g v xs) : g < w.heap.size := blk_lt h.1
theorem isw_ne {w : World} {base g : Nat} {v : Value} {xs : List Int} (h : IsW w base g v xs) : v.ownBlock ≠ some g := by
  intro e
  rcases h.2.1.2 with ⟨rfl, _⟩ | ⟨b, cap, cur, rfl, _, hb, _⟩
  · simp [Value.ownBlock] at e
  · simp [Value.ownBlock] at e
    subst e
    rw [h.1] at hb
    simp at hb
theorem isw_cell {w : World} {base g : Nat} {v : Value} {xs : List Int} (h : IsW w base g v xs) : w.cell? ⟨g, 0, none⟩ = some v := (blk_cell h.1 0).trans rfl
/-- A writer whose field has been stored anew. -/
theorem isw_stored {w1 : World} {base g : Nat} {v v1 : Value} {ys : List Int} (hb : w1.heap[g]? = some (.cells #[v] 74 (0, 0))) (hown : w1.ownsRow base 5 1 v1 ys.length (nums .u8 ys)) (hn : v1.ownBlock ≠ some g) (hge : base ≤ g) :
    IsW (w1.setCell ⟨g, 0, none⟩ v1) base g v1 ys := by
  refine ⟨one_setCell hb, ⟨hown.1, ?_⟩, hge⟩
  rcases hown.2 with h | ⟨b, cap, cur, rfl, h1, h2, h3⟩
  · exact Or.inl h
  · refine Or.inr ⟨b, cap, cur, rfl, h1, ?_, h3⟩
    rw [heap_setCell_other _ _ _ _ (by intro e; apply hn; simp [Value.ownBlock]; exact e)]
    exact h2
theorem own_shape {w : World} {base e n : Nat} {v : Value} {xs : List Value} (h : w.ownsRow base e 1 v (n + 1) xs) : ∃ g cap, v = .slice (some ⟨g, 0, none⟩) (n + 1) cap := by
  rcases h.2 with ⟨_, h0⟩ | ⟨g, cap, cur, rfl, _⟩
  · omega
  · exact ⟨g, cap, rfl⟩
/-- One byte more: the writer's field still holds the elder slice; once the new one is stored, the writer has the byte. -/
theorem wrote_step {w wr w1 : World} {base g : Nat} {v0 v v1 : Value} {xs : List Int} {u : Int}
    (hW : IsW wr base g v xs) (hK : Kept w wr (Foot g v0)) (hB : Below base w wr) (hv : v.ownBlock = v0.ownBlock ∨ ∃ b, v.ownBlock = some b ∧ w.heap.size ≤ b)
    (hown : w1.ownsRow base 5 1 v1 (xs.length + 1) (nums .u8 xs ++ [.int .u8 u])) (hg : (wr.drew).grownBy w1 v.ownBlock) (hat : v1.ownBlock = v.ownBlock ∨ ∃ b, v1.ownBlock = some b ∧ wr.heap.size ≤ b) :
    w1.cell? ⟨g, 0, none⟩ = some v ∧ w1.frozen? ⟨g, 0, none⟩ = false ∧ Wrote w (w1.setCell ⟨g, 0, none⟩ v1) base g v0 (xs ++ [u]) := by
  have hlt := isw_lt hW
  have hne := isw_ne hW
  have hb : w1.heap[g]? = some (.cells #[v] 74 (0, 0)) := (hg.block g hlt (fun e => hne e.symm)).trans hW.1
  refine ⟨(blk_cell hb 0).trans rfl, blk_frozen hb 0, v1, isw_stored hb ?_ ?_ hW.2.2, ?_, ?_, ?_⟩
  · rw [List.length_append, show nums .u8 (xs ++ [u]) = nums .u8 xs ++ [.int .u8 u] by simp [nums]]; exact hown
  · intro e
    rcases hat with h | ⟨b, h, hle⟩
    · exact hne (h.symm.trans e)
    · rw [e] at h; cases h; omega
  · refine Kept.setCell (Kept.of_grown (W := wr.drew) hg hK ?_) (Or.inl (Or.inl rfl)) v1
    intro k hk
    rcases hv with h | ⟨b, h, hle⟩
    · exact Or.inl (Or.inr (h.symm.trans hk))
    · rw [h] at hk; cases hk; exact Or.inr hle
  · refine ((hB.drew).grown hg (Nat.le_trans hW.2.2 (Nat.le_of_lt hlt)) (fun k hk => ?_)).setCell hW.2.2 v1
    rcases hW.2.1.2 with ⟨rfl, _⟩ | ⟨b, cap, cur, rfl, hge, _⟩
    · simp [Value.ownBlock] at hk
    · simp [Value.ownBlock] at hk; omega
  · rcases hat with h | ⟨b, h, hle⟩
    · rw [h]; exact hv
    · exact Or.inr ⟨b, h, Nat.le_trans hK.1 hle⟩
theorem alloc_drew (w : World) (o : Obj) : (w.alloc o).drew = w.drew.alloc o := rfl
set_option maxHeartbeats 1000000 in
set_option maxRecDepth 100000 in
theorem put64 (n : Int) (h0 : 0 ≤ n) (h1 : n < 18446744073709551616) (base g : Nat) (v : Value) (xs : List Int) (w : World) (hW : IsW w base g v xs) (hl : xs.length ≤ 1000000) :
    Calls Tryd.prog 56 #[.pointer (some ⟨g, 0, none⟩), .int .u64 n, .int .i64 8] w fun e w' => e = .returned (.tuple #[]) ∧ Wrote w w' base g v (xs ++ leBytes n 8) := by
  have HW := Lib.hid hW
  clear hW
  go_enter Tryd.func56, Tryd.ntmps56
  go_wp2
  go_loopw [6, 10] (fun _ i wr => ∃ k : Nat, k ≤ 8 ∧ i = .int .i64 k ∧ Wrote w wr base g v (xs ++ leBytes n k)) (fun _ i _ => 8 - (intOf i).toNat)
  case atStart => exact ⟨0, by omega, rfl, v, by simpa [leBytes] using HW.out, Kept.refl _ _, Below.refl _ _, Or.inl rfl⟩
  case round =>
    obtain ⟨k, hk, rfl, v2, hW2, hK2, hB2, hv2⟩ := hrel
    by_cases hlt : k < 8
    · have hc := isw_cell hW2
      have hg := isw_lt hW2
      have HW2 := Lib.hid hW2
      have HK2 := Lib.hid hK2
      have HV2 := Lib.hid hv2
      have HB2 := Lib.hid hB2
      clear hW2 hK2 hv2 hB2
      have hs8 : Op.shift BinOp.shr IntKind.u64 n IntKind.i64 (IntKind.i64.wrap (8 * (k : Int))) = pure (.int .u64 (n / 2 ^ (8 * k))) := by
        rw [IntWalk.i64_in _ (by omega), shift_shr _ _ _ _ (by omega) (by show 8 * (k : Int) ≤ 64; omega)]
        rw [show (8 * (k : Int)).toNat = 8 * k by omega]
      have hbase : base ≤ wr.heap.size := Nat.le_trans HW2.out.2.2 (Nat.le_of_lt hg)
      have HL := Lib.hid (show ((xs ++ leBytes n k).length + 1) * 1 ≤ 140737488355328 by rw [List.length_append, leBytes_len]; omega)
      go_wp2
      go_region_law (rw [alloc_drew]; refine step_append_cells (w0 := wr.drew) base (by rfl) (.tmp 17) (.tmp 23) 72 5 (.int .u8 0) 1 1 (by rfl) Tryd.underlying72 info5 rfl (by decide) (by decide) v2 (xs ++ leBytes n k).length (nums .u8 (xs ++ leBytes n k)) [.int .u8 (IntKind.u8.wrap (n / 2 ^ (8 * k)))] (by simp [Act.eval]) (by simp [Act.eval]) rfl (by intro u hu; simp at hu; subst hu; rfl) (by exact HW2.out.2.1) (Below.refl _ _) (by exact hbase) HL.out ?_; intro v1 w1 hown1 _ hg1 hat1; obtain ⟨g1, cap1, rfl⟩ := own_shape hown1; have HW1 := Lib.hid (wrote_step HW2.out HK2.out HB2.out HV2.out hown1 hg1 hat1); have hc1 := HW1.out.1; have hf1 := HW1.out.2.1; clear hown1 hg1 hat1)
      go_wp2
      all_goals
        have HW9 := HW1.out.2.2
        clear hc1 hf1
        rw [IntKind.wrap_u8] at HW9
        refine ⟨⟨k + 1, by omega, by go_num, ?_⟩, by simp [intOf]; omega⟩
        rw [leBytes_succ, ← List.append_assoc]
        rw [List.length_append] at HW9
        exact HW9
    · go_wp2
      go_end0
      have hk8 : k = 8 := by omega
      subst hk8
      exact ⟨rfl, v2, hW2, hK2, hB2, hv2⟩
set_option maxHeartbeats 1000000 in
set_option maxRecDepth 100000 in
theorem put8 (n : Int) (h0 : 0 ≤ n) (h1 : n < 256) (base g : Nat) (v : Value) (xs : List Int) (w : World) (hW : IsW w base g v xs) (hl : xs.length ≤ 1000000) :
    Calls Tryd.prog 57 #[.pointer (some ⟨g, 0, none⟩), .int .u8 n, .int .i64 1] w fun e w' => e = .returned (.tuple #[]) ∧ Wrote w w' base g v (xs ++ leBytes n 1) := by
  have HW := Lib.hid hW
  clear hW
  go_enter Tryd.func57, Tryd.ntmps57
  go_wp2
  go_loopw [6, 10] (fun _ i wr => ∃ k : Nat, k ≤ 1 ∧ i = .int .i64 k ∧ Wrote w wr base g v (xs ++ leBytes n k)) (fun _ i _ => 1 - (intOf i).toNat)
  case atStart => exact ⟨0, by omega, rfl, v, by simpa [leBytes] using HW.out, Kept.refl _ _, Below.refl _ _, Or.inl rfl⟩
  case round =>
    obtain ⟨k, hk, rfl, v2, hW2, hK2, hB2, hv2⟩ := hrel
    by_cases hlt : k < 1
    · have hc := isw_cell hW2
      have hg := isw_lt hW2
      have HW2 := Lib.hid hW2
      have HK2 := Lib.hid hK2
      have HV2 := Lib.hid hv2
      have HB2 := Lib.hid hB2
      clear hW2 hK2 hv2 hB2
      have hs8 : Op.shift BinOp.shr IntKind.u64 (IntKind.u64.wrap n) IntKind.i64 (IntKind.i64.wrap (8 * (k : Int))) = pure (.int .u64 (n / 2 ^ (8 * k))) := by
        rw [IntWalk.u64_in n ⟨h0, by omega⟩, IntWalk.i64_in _ (by omega), shift_shr _ _ _ _ (by omega) (by show 8 * (k : Int) ≤ 64; omega)]
        rw [show (8 * (k : Int)).toNat = 8 * k by omega]
      have hbase : base ≤ wr.heap.size := Nat.le_trans HW2.out.2.2 (Nat.le_of_lt hg)
      have HL := Lib.hid (show ((xs ++ leBytes n k).length + 1) * 1 ≤ 140737488355328 by rw [List.length_append, leBytes_len]; omega)
      go_wp2
      go_region_law (rw [alloc_drew]; refine step_append_cells (w0 := wr.drew) base (by rfl) (.tmp 17) (.tmp 24) 72 5 (.int .u8 0) 1 1 (by rfl) Tryd.underlying72 info5 rfl (by decide) (by decide) v2 (xs ++ leBytes n k).length (nums .u8 (xs ++ leBytes n k)) [.int .u8 (IntKind.u8.wrap (n / 2 ^ (8 * k)))] (by simp [Act.eval]) (by simp [Act.eval]) rfl (by intro u hu; simp at hu; subst hu; rfl) (by exact HW2.out.2.1) (Below.refl _ _) (by exact hbase) HL.out ?_; intro v1 w1 hown1 _ hg1 hat1; obtain ⟨g1, cap1, rfl⟩ := own_shape hown1; have HW1 := Lib.hid (wrote_step HW2.out HK2.out HB2.out HV2.out hown1 hg1 hat1); have hc1 := HW1.out.1; have hf1 := HW1.out.2.1; clear hown1 hg1 hat1)
      go_wp2
      all_goals
        have HW9 := HW1.out.2.2
        clear hc1 hf1
        rw [IntKind.wrap_u8] at HW9
        refine ⟨⟨k + 1, by omega, by go_num, ?_⟩, by simp [intOf]; omega⟩
        rw [leBytes_succ, ← List.append_assoc]
        rw [List.length_append] at HW9
        exact HW9
    · go_wp2
      go_end0
      have hk8 : k = 1 := by omega
      subst hk8
      exact ⟨rfl, v2, hW2, hK2, hB2, hv2⟩
set_option maxHeartbeats 1000000 in
set_option maxRecDepth 100000 in
theorem put16 (n : Int) (h0 : 0 ≤ n) (h1 : n < 65536) (base g : Nat) (v : Value) (xs : List Int) (w : World) (hW : IsW w base g v xs) (hl : xs.length ≤ 1000000) :
    Calls Tryd.prog 80 #[.pointer (some ⟨g, 0, none⟩), .int .u16 n, .int .i64 2] w fun e w' => e = .returned (.tuple #[]) ∧ Wrote w w' base g v (xs ++ leBytes n 2) := by
  have HW := Lib.hid hW
  clear hW
  go_enter Tryd.func80, Tryd.ntmps80
  go_wp2
  go_loopw [6, 10] (fun _ i wr => ∃ k : Nat, k ≤ 2 ∧ i = .int .i64 k ∧ Wrote w wr base g v (xs ++ leBytes n k)) (fun _ i _ => 2 - (intOf i).toNat)
  case atStart => exact ⟨0, by omega, rfl, v, by simpa [leBytes] using HW.out, Kept.refl _ _, Below.refl _ _, Or.inl rfl⟩
  case round =>
    obtain ⟨k, hk, rfl, v2, hW2, hK2, hB2, hv2⟩ := hrel
    by_cases hlt : k < 2
    · have hc := isw_cell hW2
      have hg := isw_lt hW2
      have HW2 := Lib.hid hW2
      have HK2 := Lib.hid hK2
      have HV2 := Lib.hid hv2
      have HB2 := Lib.hid hB2
      clear hW2 hK2 hv2 hB2
      have hs8 : Op.shift BinOp.shr IntKind.u64 (IntKind.u64.wrap n) IntKind.i64 (IntKind.i64.wrap (8 * (k : Int))) = pure (.int .u64 (n / 2 ^ (8 * k))) := by
        rw [IntWalk.u64_in n ⟨h0, by omega⟩, IntWalk.i64_in _ (by omega), shift_shr _ _ _ _ (by omega) (by show 8 * (k : Int) ≤ 64; omega)]
        rw [show (8 * (k : Int)).toNat = 8 * k by omega]
      have hbase : base ≤ wr.heap.size := Nat.le_trans HW2.out.2.2 (Nat.le_of_lt hg)
      have HL := Lib.hid (show ((xs ++ leBytes n k).length + 1) * 1 ≤ 140737488355328 by rw [List.length_append, leBytes_len]; omega)
      go_wp2
      go_region_law (rw [alloc_drew]; refine step_append_cells (w0 := wr.drew) base (by rfl) (.tmp 17) (.tmp 24) 72 5 (.int .u8 0) 1 1 (by rfl) Tryd.underlying72 info5 rfl (by decide) (by decide) v2 (xs ++ leBytes n k).length (nums .u8 (xs ++ leBytes n k)) [.int .u8 (IntKind.u8.wrap (n / 2 ^ (8 * k)))] (by simp [Act.eval]) (by simp [Act.eval]) rfl (by intro u hu; simp at hu; subst hu; rfl) (by exact HW2.out.2.1) (Below.refl _ _) (by exact hbase) HL.out ?_; intro v1 w1 hown1 _ hg1 hat1; obtain ⟨g1, cap1, rfl⟩ := own_shape hown1; have HW1 := Lib.hid (wrote_step HW2.out HK2.out HB2.out HV2.out hown1 hg1 hat1); have hc1 := HW1.out.1; have hf1 := HW1.out.2.1; clear hown1 hg1 hat1)
      go_wp2
      all_goals
        have HW9 := HW1.out.2.2
        clear hc1 hf1
        rw [IntKind.wrap_u8] at HW9
        refine ⟨⟨k + 1, by omega, by go_num, ?_⟩, by simp [intOf]; omega⟩
        rw [leBytes_succ, ← List.append_assoc]
        rw [List.length_append] at HW9
        exact HW9
    · go_wp2
      go_end0
      have hk8 : k = 2 := by omega
      subst hk8
      exact ⟨rfl, v2, hW2, hK2, hB2, hv2⟩
set_option maxHeartbeats 1000000 in
set_option maxRecDepth 100000 in
theorem put32 (n : Int) (h0 : 0 ≤ n) (h1 : n < 4294967296) (base g : Nat) (v : Value) (xs : List Int) (w : World) (hW : IsW w base g v xs) (hl : xs.length ≤ 1000000) :
    Calls Tryd.prog 81 #[.pointer (some ⟨g, 0, none⟩), .int .u32 n, .int .i64 4] w fun e w' => e = .returned (.tuple #[]) ∧ Wrote w w' base g v (xs ++ leBytes n 4) := by
  have HW := Lib.hid hW
  clear hW
  go_enter Tryd.func81, Tryd.ntmps81
  go_wp2
  go_loopw [6, 10] (fun _ i wr => ∃ k : Nat, k ≤ 4 ∧ i = .int .i64 k ∧ Wrote w wr base g v (xs ++ leBytes n k)) (fun _ i _ => 4 - (intOf i).toNat)
  case atStart => exact ⟨0, by omega, rfl, v, by simpa [leBytes] using HW.out, Kept.refl _ _, Below.refl _ _, Or.inl rfl⟩
  case round =>
    obtain ⟨k, hk, rfl, v2, hW2, hK2, hB2, hv2⟩ := hrel
    by_cases hlt : k < 4
    · have hc := isw_cell hW2
      have hg := isw_lt hW2
      have HW2 := Lib.hid hW2
      have HK2 := Lib.hid hK2
      have HV2 := Lib.hid hv2
      have HB2 := Lib.hid hB2
      clear hW2 hK2 hv2 hB2
      have hs8 : Op.shift BinOp.shr IntKind.u64 (IntKind.u64.wrap n) IntKind.i64 (IntKind.i64.wrap (8 * (k : Int))) = pure (.int .u64 (n / 2 ^ (8 * k))) := by
        rw [IntWalk.u64_in n ⟨h0, by omega⟩, IntWalk.i64_in _ (by omega), shift_shr _ _ _ _ (by omega) (by show 8 * (k : Int) ≤ 64; omega)]
        rw [show (8 * (k : Int)).toNat = 8 * k by omega]
      have hbase : base ≤ wr.heap.size := Nat.le_trans HW2.out.2.2 (Nat.le_of_lt hg)
      have HL := Lib.hid (show ((xs ++ leBytes n k).length + 1) * 1 ≤ 140737488355328 by rw [List.length_append, leBytes_len]; omega)
      go_wp2
      go_region_law (rw [alloc_drew]; refine step_append_cells (w0 := wr.drew) base (by rfl) (.tmp 17) (.tmp 24) 72 5 (.int .u8 0) 1 1 (by rfl) Tryd.underlying72 info5 rfl (by decide) (by decide) v2 (xs ++ leBytes n k).length (nums .u8 (xs ++ leBytes n k)) [.int .u8 (IntKind.u8.wrap (n / 2 ^ (8 * k)))] (by simp [Act.eval]) (by simp [Act.eval]) rfl (by intro u hu; simp at hu; subst hu; rfl) (by exact HW2.out.2.1) (Below.refl _ _) (by exact hbase) HL.out ?_; intro v1 w1 hown1 _ hg1 hat1; obtain ⟨g1, cap1, rfl⟩ := own_shape hown1; have HW1 := Lib.hid (wrote_step HW2.out HK2.out HB2.out HV2.out hown1 hg1 hat1); have hc1 := HW1.out.1; have hf1 := HW1.out.2.1; clear hown1 hg1 hat1)
      go_wp2
      all_goals
        have HW9 := HW1.out.2.2
        clear hc1 hf1
        rw [IntKind.wrap_u8] at HW9
        refine ⟨⟨k + 1, by omega, by go_num, ?_⟩, by simp [intOf]; omega⟩
        rw [leBytes_succ, ← List.append_assoc]
        rw [List.length_append] at HW9
        exact HW9
    · go_wp2
      go_end0
      have hk8 : k = 4 := by omega
      subst hk8
      exact ⟨rfl, v2, hW2, hK2, hB2, hv2⟩
set_option maxHeartbeats 1000000 in
set_option maxRecDepth 100000 in
theorem wBytes (base g : Nat) (v : Value) (xs : List Int) (w : World) (hW : IsW w base g v xs) (hl : xs.length ≤ 1000000) :
    Calls Tryd.prog 30 #[.pointer (some ⟨g, 0, none⟩)] w fun e w' => e = .returned (.string (strOfNums xs)) ∧ Drawn0 w w' := by
  have hc := isw_cell hW
  have hcv := own_string (P := Tryd.prog) Tryd.underlying72 Tryd.underlying5 Tryd.underlying9 hW.2.1
  have HW := Lib.hid hW
  clear hW
  go_enter Tryd.func30, Tryd.ntmps30
  go_wp2
  go_ret
  exact ⟨rfl, Drawn0.refl _⟩
set_option maxHeartbeats 1000000 in
set_option maxRecDepth 100000 in
theorem wU64 (n : Int) (h0 : 0 ≤ n) (h1 : n < 18446744073709551616) (base g : Nat) (v : Value) (xs : List Int) (w : World) (hW : IsW w base g v xs) (hl : xs.length ≤ 1000000) :
    Calls Tryd.prog 27 #[.pointer (some ⟨g, 0, none⟩), .int .u64 n] w fun e w' => e = .returned (.tuple #[]) ∧ Wrote w w' base g v (xs ++ leBytes n 8) := by
  have HW := Lib.hid hW
  clear hW
  go_enter Tryd.func27, Tryd.ntmps27
  go_wp2_with fail
  refine (put64 n h0 h1 base g v xs _ HW.out hl).mono ?_
  rintro e w1 ⟨rfl, hw⟩
  have HQ := Lib.hid hw
  clear hw
  go_wp2
  go_end0
  exact ⟨rfl, HQ.out⟩
set_option maxHeartbeats 1000000 in
set_option maxRecDepth 100000 in
theorem wU8 (n : Int) (h0 : 0 ≤ n) (h1 : n < 256) (base g : Nat) (v : Value) (xs : List Int) (w : World) (hW : IsW w base g v xs) (hl : xs.length ≤ 1000000) :
    Calls Tryd.prog 28 #[.pointer (some ⟨g, 0, none⟩), .int .u8 n] w fun e w' => e = .returned (.tuple #[]) ∧ Wrote w w' base g v (xs ++ leBytes n 1) := by
  have HW := Lib.hid hW
  clear hW
  go_enter Tryd.func28, Tryd.ntmps28
  go_wp2_with fail
  refine (put8 n h0 h1 base g v xs _ HW.out hl).mono ?_
  rintro e w1 ⟨rfl, hw⟩
  have HQ := Lib.hid hw
  clear hw
  go_wp2
  go_end0
  exact ⟨rfl, HQ.out⟩
set_option maxHeartbeats 1000000 in
set_option maxRecDepth 100000 in
theorem wU16 (n : Int) (h0 : 0 ≤ n) (h1 : n < 65536) (base g : Nat) (v : Value) (xs : List Int) (w : World) (hW : IsW w base g v xs) (hl : xs.length ≤ 1000000) :
    Calls Tryd.prog 58 #[.pointer (some ⟨g, 0, none⟩), .int .u16 n] w fun e w' => e = .returned (.tuple #[]) ∧ Wrote w w' base g v (xs ++ leBytes n 2) := by
  have HW := Lib.hid hW
  clear hW
  go_enter Tryd.func58, Tryd.ntmps58
  go_wp2_with fail
  refine (put16 n h0 h1 base g v xs _ HW.out hl).mono ?_
  rintro e w1 ⟨rfl, hw⟩
  have HQ := Lib.hid hw
  clear hw
  go_wp2
  go_end0
  exact ⟨rfl, HQ.out⟩
set_option maxHeartbeats 1000000 in
set_option maxRecDepth 100000 in
theorem wU32 (n : Int) (h0 : 0 ≤ n) (h1 : n < 4294967296) (base g : Nat) (v : Value) (xs : List Int) (w : World) (hW : IsW w base g v xs) (hl : xs.length ≤ 1000000) :
    Calls Tryd.prog 59 #[.pointer (some ⟨g, 0, none⟩), .int .u32 n] w fun e w' => e = .returned (.tuple #[]) ∧ Wrote w w' base g v (xs ++ leBytes n 4) := by
  have HW := Lib.hid hW
  clear hW
  go_enter Tryd.func59, Tryd.ntmps59
  go_wp2_with fail
  refine (put32 n h0 h1 base g v xs _ HW.out hl).mono ?_
  rintro e w1 ⟨rfl, hw⟩
  have HQ := Lib.hid hw
  clear hw
  go_wp2
  go_end0
  exact ⟨rfl, HQ.out⟩
end Go.Proofs.YtnhjhaphfdlkfaaDoor.Wr
-- out of the translation's print, by a program and by hand (wip/tools/hp.py)
namespace Go.Proofs.YtnhjhaphfdlkfaaDoor.HF
open Go.RowKit Go.Proofs.YtnhjhaphfdlkfaaDoorW.PrintWords Go.Proofs.YtnhjhaphfdlkfaaDoorW.PrintLast Go.Proofs.YtnhjhaphfdlkfaaDoorW.PrintMore
attribute [local go_sem] max2_int min2_int max_two min_two max_three min_three max_four min_four   -- for this text's walks alone
set_option linter.unusedVariables false
set_option linter.unusedSimpArgs false
def errW : Option Int → Value
  | none => .nilIface
  | some c => .iface 0 (.int .i64 c)
theorem errW_none : errW none = .nilIface := rfl
theorem errW_some (c : Int) : errW (some c) = .iface 0 (.int .i64 c) := rfl
theorem info5 : (Tryd.prog.info? 5).map (fun i => (i.zero, i.size, i.bytes)) = some (some (.int .u8 0), 1, 1) := by kernel_rfl
-- the values' own types
end Go.Proofs.YtnhjhaphfdlkfaaDoor.HF
-- out of the translation's print, by a program and by hand (wip/tools/hp.py)
namespace Go.Proofs.YtnhjhaphfdlkfaaDoor.HF
open Go.RowKit Go.Proofs.YtnhjhaphfdlkfaaDoorW.PrintWords Go.Proofs.YtnhjhaphfdlkfaaDoorW.PrintLast Go.Proofs.YtnhjhaphfdlkfaaDoorW.PrintMore
attribute [local go_sem] max2_int min2_int max_two min_two max_three min_three max_four min_four   -- for this text's walks alone
set_option linter.unusedVariables false
set_option linter.unusedSimpArgs false
/-- A state of type 130 at block g of W; what its slices lead to came in by w0. -/
def IsS130 (w0 W : World) (g : Nat) (f0 : ByteArray) (f1 : Int) : Prop := W.heap[g]? = some (.cells #[.string f0, .int .i64 f1] 130 (0, 0)) ∧ w0.heap.size ≤ g
theorem IsS130.grown {w0 W : World} {g : Nat} {f0 : ByteArray} {f1 : Int} {W1 : World} {row : Option Nat} (h : IsS130 w0 W g f0 f1) (hw : W.grownBy W1 row) (hne : some g ≠ row) : IsS130 w0 W1 g f0 f1 := by
  obtain ⟨hb, hg⟩ := h
  exact ⟨blk_grown hb hw hne, hg⟩
theorem IsS130.kept {w0 W : World} {g : Nat} {f0 : ByteArray} {f1 : Int} {W1 : World} {S : Nat → Prop} (h : IsS130 w0 W g f0 f1) (hk : Kept W W1 S) (hne : ¬ S g) : IsS130 w0 W1 g f0 f1 := by
  obtain ⟨hb, hg⟩ := h
  exact ⟨blk_kept hb hk hne, hg⟩
theorem IsS130.below {w0 W : World} {g : Nat} {f0 : ByteArray} {f1 : Int} {W1 : World} (h : IsS130 w0 W g f0 f1) (hw : Below W.heap.size W W1) : IsS130 w0 W1 g f0 f1 := h.grown (grown_of_below hw none) (by simp)
theorem IsS130.alloc {w0 W : World} {g : Nat} {f0 : ByteArray} {f1 : Int} (h : IsS130 w0 W g f0 f1) (o : Obj) : IsS130 w0 (W.alloc o) g f0 f1 := h.below (below_alloc (Below.refl _ _) o)
theorem IsS130.drewN {w0 W : World} {g : Nat} {f0 : ByteArray} {f1 : Int} (h : IsS130 w0 W g f0 f1) (m : Nat) : IsS130 w0 (W.drewN m) g f0 f1 := h
theorem IsS130.drew {w0 W : World} {g : Nat} {f0 : ByteArray} {f1 : Int} (h : IsS130 w0 W g f0 f1) : IsS130 w0 W.drew g f0 f1 := h
theorem IsS130.apart {w0 W : World} {g : Nat} {f0 : ByteArray} {f1 : Int} {α : Type} {d : Kd α} {e : Nat} {base : Nat} {ok : Nat → Prop} {v : Value} {xs : List α} (h : IsS130 w0 W g f0 f1) (ho : d.R e W base ok v xs) (ht : ∀ q, q ∈ e :: d.E → q ≠ 130) : d.R e W base (fun k => ok k ∧ k ≠ g) v xs := by
  obtain ⟨hb, hg⟩ := h
  exact Kd.R_types ho hb ht
theorem IsS130.own_ne {w0 W : World} {g : Nat} {f0 : ByteArray} {f1 : Int} {α : Type} {d : Kd α} {e : Nat} {base : Nat} {ok : Nat → Prop} {v : Value} {xs : List α} (h : IsS130 w0 W g f0 f1) (ho : d.R e W base ok v xs) (ht : e ≠ 130) : some g ≠ v.ownBlock := by
  obtain ⟨hb, hg⟩ := h
  exact Kd.R_ne ho hb ht
theorem IsS130.lt {w0 W : World} {g : Nat} {f0 : ByteArray} {f1 : Int} (h : IsS130 w0 W g f0 f1) : g < W.heap.size := by
  obtain ⟨hb, hg⟩ := h
  exact blk_lt hb
theorem IsS130.ge {w0 W : World} {g : Nat} {f0 : ByteArray} {f1 : Int} (h : IsS130 w0 W g f0 f1) : w0.heap.size ≤ g := by
  obtain ⟨hb, hg⟩ := h
  exact hg
theorem IsS130.far {w0 W : World} {g : Nat} {f0 : ByteArray} {f1 : Int} {p : Addr} (h : IsS130 w0 W g f0 f1) (hne : g ≠ p.block) (u : Value) : IsS130 w0 (W.setCell p u) g f0 f1 := by
  obtain ⟨hb, hg⟩ := h
  exact ⟨blk_far hb hne u, hg⟩
theorem cellS130_0 {W : World} {g : Nat} {f0 : ByteArray} {f1 : Int} (h : W.heap[g]? = some (.cells #[.string f0, .int .i64 f1] 130 (0, 0))) : W.cell? ⟨g, 0, none⟩ = some (.string f0) := (blk_cell h 0).trans rfl
theorem IsS130.set_0 {w0 W : World} {g : Nat} {f0 : ByteArray} {f1 : Int} (h : IsS130 w0 W g f0 f1) (x : ByteArray) : IsS130 w0 (W.setCell ⟨g, 0, none⟩ (.string x)) g x f1 := by
  obtain ⟨hb, hg⟩ := h
  exact ⟨by simpa using blk_set hb 0 (.string x), hg⟩
theorem cellS130_1 {W : World} {g : Nat} {f0 : ByteArray} {f1 : Int} (h : W.heap[g]? = some (.cells #[.string f0, .int .i64 f1] 130 (0, 0))) : W.cell? ⟨g, 1, none⟩ = some (.int .i64 f1) := (blk_cell h 1).trans rfl
theorem IsS130.set_1 {w0 W : World} {g : Nat} {f0 : ByteArray} {f1 : Int} (h : IsS130 w0 W g f0 f1) (x : Int) : IsS130 w0 (W.setCell ⟨g, 1, none⟩ (.int .i64 x)) g f0 x := by
  obtain ⟨hb, hg⟩ := h
  exact ⟨by simpa using blk_set hb 1 (.int .i64 x), hg⟩
/-! ### codec_left_fail: function 89 -/
def codec_left_fail.f (s0_0 : ByteArray) (s0_1 : Int) (a1 : Int) : Option (ByteArray × Int) := if s0_1 = 0 then (some ((⟨#[]⟩ : ByteArray), a1)) else (some (s0_0, s0_1))
set_option maxHeartbeats 8000000 in
set_option maxRecDepth 100000 in
theorem codec_left_fail.calls (g : Nat) (s0_0 : ByteArray) (s0_1 : Int) (a1 : Int) (r1 : ByteArray) (r2 : Int) (w0 w : World) (hI : IsS130 w0 w g s0_0 s0_1) (hB : Below w0.heap.size w0 w) (h : codec_left_fail.f s0_0 s0_1 a1 = some (r1, r2)) :
    Calls Tryd.prog 89 #[.pointer (some ⟨g, 0, none⟩), .int .i64 a1] w fun e w' => e = .returned (.tuple #[]) ∧ IsS130 w0 w' g r1 r2 ∧ Below w0.heap.size w0 w' ∧ KeepBut w w' g none := by
  have HI0 := Aside0.mk hI
  have HK := Aside0.mk (KeepBut.refl w g none)
  have HL := Aside0.mk hB.size
  clear hI
  have HW0 := Aside0.mk hB.size
  have HB := Aside0.mk hB
  clear hB
  have H : (if s0_1 = 0 then (some ((⟨#[]⟩ : ByteArray), a1)) else (some (s0_0, s0_1))) = some (r1, r2) := h
  clear h
  by_cases c3 : s0_1 = 0
  · rw [if_pos c3] at H
    have c3b0 : (s0_1 == 0) = true := beq_iff_eq.mpr c3
    have c3b1 : (s0_1 != 0) = false := bne_eq_false_iff_eq.mpr c3
    clear c3
    simp only [Option.some.injEq, Prod.mk.injEq] at H
    obtain ⟨rfl, rfl⟩ := H
    obtain ⟨HGz4, hgz4⟩ := HI0.out
    have hcz4_0 := cellS130_0 HGz4
    have hcz4_1 := cellS130_1 HGz4
    have hfz4_0 := blk_frozen HGz4 0
    have hfz4_1 := blk_frozen HGz4 1
    clear HGz4 hgz4
    go_enter Tryd.func89, Tryd.ntmps89
    go_wp2
    first | go_end0 | ((try simp only [Exit.inBlock, Exit.then]); refine bodyPost_ret (results_none rfl _ _ _) rfl ?_)
    exact ⟨by first | rfl | (simp [errW_none, errW_some] <;> rfl) | (simp [*, errW_none, errW_some] <;> rfl), by repeat (first | (with_reducible first | exact HI0.out | apply IsS130.alloc | apply IsS130.drewN | apply IsS130.drew | apply IsS130.set_0 | apply IsS130.set_1) | exact HI0.out), by repeat (first | (with_reducible first | exact HB.out | apply below_alloc | apply pw_below_drewN | apply below_drew1 | refine below_set ?_ (IsS130.ge HI0.out)) | exact HB.out), by repeat (first | (with_reducible first | exact HK.out | apply KeepBut.set_ | apply keep_drewN | apply keep_drew | apply keep_alloc) | exact HK.out)⟩
  · rw [if_neg c3] at H
    have c3b0 : (s0_1 == 0) = false := beq_eq_false_iff_ne.mpr c3
    have c3b1 : (s0_1 != 0) = true := bne_iff_ne.mpr c3
    simp only [Option.some.injEq, Prod.mk.injEq] at H
    obtain ⟨rfl, rfl⟩ := H
    obtain ⟨HGz5, hgz5⟩ := HI0.out
    have hcz5_0 := cellS130_0 HGz5
    have hcz5_1 := cellS130_1 HGz5
    have hfz5_0 := blk_frozen HGz5 0
    have hfz5_1 := blk_frozen HGz5 1
    clear HGz5 hgz5
    go_enter Tryd.func89, Tryd.ntmps89
    go_wp2
    first | go_end0 | ((try simp only [Exit.inBlock, Exit.then]); refine bodyPost_ret (results_none rfl _ _ _) rfl ?_)
    exact ⟨by first | rfl | (simp [errW_none, errW_some] <;> rfl) | (simp [*, errW_none, errW_some] <;> rfl), by repeat (first | (with_reducible first | exact HI0.out | apply IsS130.alloc | apply IsS130.drewN | apply IsS130.drew | apply IsS130.set_0 | apply IsS130.set_1) | exact HI0.out), by repeat (first | (with_reducible first | exact HB.out | apply below_alloc | apply pw_below_drewN | apply below_drew1 | refine below_set ?_ (IsS130.ge HI0.out)) | exact HB.out), by repeat (first | (with_reducible first | exact HK.out | apply KeepBut.set_ | apply keep_drewN | apply keep_drew | apply keep_alloc) | exact HK.out)⟩
/-! ### codec_left_take: function 86 -/
def codec_left_take.f (s0_0 : ByteArray) (s0_1 : Int) (a1 : Int) : Option (ByteArray × Bool × ByteArray × Int) := if s0_1 = 0 then (if a1 > (IntKind.u64.wrap ((s0_0.size : Int))) then ((codec_left_fail.f s0_0 s0_1 10).bind fun bt101 => (some ((⟨#[]⟩ : ByteArray), false, bt101.1, bt101.2))) else (if 0 ≤ a1 then (if a1 ≤ (s0_0.size : Int) then (some (s0_0.extract 0 (a1 : Int).toNat, true, s0_0.extract (a1 : Int).toNat s0_0.size, s0_1)) else (none)) else (none))) else (some ((⟨#[]⟩ : ByteArray), false, s0_0, s0_1))
set_option maxHeartbeats 8000000 in
set_option maxRecDepth 100000 in
theorem codec_left_take.calls (g : Nat) (s0_0 : ByteArray) (s0_1 : Int) (a1 : Int) (r1 : ByteArray) (r2 : Bool) (r3 : ByteArray) (r4 : Int) (w0 w : World) (hI : IsS130 w0 w g s0_0 s0_1) (hB : Below w0.heap.size w0 w) (h : codec_left_take.f s0_0 s0_1 a1 = some (r1, r2, r3, r4)) :
    Calls Tryd.prog 86 #[.pointer (some ⟨g, 0, none⟩), .int .u64 a1] w fun e w' => e = .returned (.tuple #[.string r1, .bool r2]) ∧ IsS130 w0 w' g r3 r4 ∧ Below w0.heap.size w0 w' ∧ KeepBut w w' g none := by
  have HI0 := Aside0.mk hI
  have HK := Aside0.mk (KeepBut.refl w g none)
  have HL := Aside0.mk hB.size
  clear hI
  have HW0 := Aside0.mk hB.size
  have HB := Aside0.mk hB
  clear hB
  have H : (if s0_1 = 0 then (if a1 > (IntKind.u64.wrap ((s0_0.size : Int))) then ((codec_left_fail.f s0_0 s0_1 10).bind fun bt101 => (some ((⟨#[]⟩ : ByteArray), false, bt101.1, bt101.2))) else (if 0 ≤ a1 then (if a1 ≤ (s0_0.size : Int) then (some (s0_0.extract 0 (a1 : Int).toNat, true, s0_0.extract (a1 : Int).toNat s0_0.size, s0_1)) else (none)) else (none))) else (some ((⟨#[]⟩ : ByteArray), false, s0_0, s0_1))) = some (r1, r2, r3, r4) := h
  clear h
  by_cases c3 : s0_1 = 0
  · rw [if_pos c3] at H
    have c3b0 : (s0_1 == 0) = true := beq_iff_eq.mpr c3
    have c3b1 : (s0_1 != 0) = false := bne_eq_false_iff_eq.mpr c3
    clear c3
    by_cases c4 : a1 > (IntKind.u64.wrap ((s0_0.size : Int)))
    · rw [if_pos c4] at H
      have c4b0 : decide ((IntKind.u64.wrap ((s0_0.size : Int))) < a1) = true := decide_eq_true c4
      clear c4
      replace H := Option.bind_eq_some_iff.mp H
      obtain ⟨⟨t101, t102⟩, A50, H⟩ := H
      replace H : (some ((⟨#[]⟩ : ByteArray), false, t101, t102)) = some (r1, r2, r3, r4) := H
      have A5 := Aside0.mk A50
      clear A50
      simp only [Option.some.injEq, Prod.mk.injEq] at H
      obtain ⟨rfl, rfl, rfl, rfl⟩ := H
      obtain ⟨HGz6, hgz6⟩ := HI0.out
      have hcz6_0 := cellS130_0 HGz6
      have hcz6_1 := cellS130_1 HGz6
      have hfz6_0 := blk_frozen HGz6 0
      have hfz6_1 := blk_frozen HGz6 1
      clear HGz6 hgz6
      go_enter Tryd.func86, Tryd.ntmps86
      go_wp2_with (first | ((with_reducible refine gate_callee (f := 89) rfl ?_); refine goesL_ (some 21) rfl rfl Tryd.func89 (by kernel_rfl) rfl #[.pointer (some ⟨g, 0, none⟩), .int .i64 10] rfl (by (try simp only [List.map_toArray, List.map_cons, List.map_nil]); first | done | rfl | (simp only [List.length_drop, List.length_take]; rfl)) ?_; (with_reducible refine (codec_left_fail.calls g s0_0 s0_1 10 t101 t102 w0 _ ?side1 ?side2 A5.out).mono ?_); (case side1 => repeat (first | (with_reducible first | exact HI0.out | apply IsS130.alloc | apply IsS130.drewN | apply IsS130.drew | apply IsS130.set_0 | apply IsS130.set_1) | exact HI0.out)); (case side2 => repeat (first | (with_reducible first | exact HB.out | apply below_alloc | apply pw_below_drewN | apply below_drew1 | refine below_set ?_ (IsS130.ge HI0.out)) | exact HB.out)); rintro e w7 ⟨rfl, hi, hb, hk⟩; refine ⟨_, rfl, ?_⟩; have n0_ := Aside0.mk (KeepBut.trans (by repeat (first | (with_reducible first | exact HK.out | apply KeepBut.set_ | apply keep_drewN | apply keep_drew | apply keep_alloc) | exact HK.out)) hk (.inl rfl)); have n1_ := Aside0.mk (hb); have n2_ := Aside0.mk (hi); clear HK; clear HB; clear HI0; have HK := n0_; have HB := n1_; have HI0 := n2_; clear n0_ n1_ n2_; (try clear hb); (try clear hb2); (try clear hk); (try clear hi)))
      go_ret2
      exact ⟨by first | rfl | (simp [errW_none, errW_some] <;> rfl) | (simp [*, errW_none, errW_some] <;> rfl), by repeat (first | (with_reducible first | exact HI0.out | apply IsS130.alloc | apply IsS130.drewN | apply IsS130.drew | apply IsS130.set_0 | apply IsS130.set_1) | exact HI0.out), by repeat (first | (with_reducible first | exact HB.out | apply below_alloc | apply pw_below_drewN | apply below_drew1 | refine below_set ?_ (IsS130.ge HI0.out)) | exact HB.out), by repeat (first | (with_reducible first | exact HK.out | apply KeepBut.set_ | apply keep_drewN | apply keep_drew | apply keep_alloc) | exact HK.out)⟩
    · rw [if_neg c4] at H
      have c4b0 : decide ((IntKind.u64.wrap ((s0_0.size : Int))) < a1) = false := decide_eq_false c4
      clear c4
      by_cases c8 : 0 ≤ a1
      · rw [if_pos c8] at H
        have c8b0 := eq_true c8
        have c8b1 : decide (0 ≤ a1) = true := decide_eq_true c8
        clear c8
        by_cases c9 : a1 ≤ (s0_0.size : Int)
        · rw [if_pos c9] at H
          have c9b0 := eq_true c9
          have c9b1 : decide (a1 ≤ (s0_0.size : Int)) = true := decide_eq_true c9
          clear c9
          have c10b0 := eq_true (of_decide_eq_true (by first | (with_reducible assumption) | assumption) : 0 ≤ a1)
          have c11b0 := eq_true (of_decide_eq_true (by first | (with_reducible assumption) | assumption) : a1 ≤ (s0_0.size : Int))
          simp only [Option.some.injEq, Prod.mk.injEq] at H
          obtain ⟨rfl, rfl, rfl, rfl⟩ := H
          obtain ⟨HGz12, hgz12⟩ := HI0.out
          have hcz12_0 := cellS130_0 HGz12
          have hcz12_1 := cellS130_1 HGz12
          have hfz12_0 := blk_frozen HGz12 0
          have hfz12_1 := blk_frozen HGz12 1
          clear HGz12 hgz12
          go_enter Tryd.func86, Tryd.ntmps86
          go_wp2
          go_ret2
          exact ⟨by first | rfl | (simp [errW_none, errW_some] <;> rfl) | (simp [*, errW_none, errW_some] <;> rfl), by repeat (first | (with_reducible first | exact HI0.out | apply IsS130.alloc | apply IsS130.drewN | apply IsS130.drew | apply IsS130.set_0 | apply IsS130.set_1) | exact HI0.out), by repeat (first | (with_reducible first | exact HB.out | apply below_alloc | apply pw_below_drewN | apply below_drew1 | refine below_set ?_ (IsS130.ge HI0.out)) | exact HB.out), by repeat (first | (with_reducible first | exact HK.out | apply KeepBut.set_ | apply keep_drewN | apply keep_drew | apply keep_alloc) | exact HK.out)⟩
        · rw [if_neg c9] at H
          exact absurd H (by simp)
      · rw [if_neg c8] at H
        exact absurd H (by simp)
  · rw [if_neg c3] at H
    have c3b0 : (s0_1 == 0) = false := beq_eq_false_iff_ne.mpr c3
    have c3b1 : (s0_1 != 0) = true := bne_iff_ne.mpr c3
    simp only [Option.some.injEq, Prod.mk.injEq] at H
    obtain ⟨rfl, rfl, rfl, rfl⟩ := H
    obtain ⟨HGz13, hgz13⟩ := HI0.out
    have hcz13_0 := cellS130_0 HGz13
    have hcz13_1 := cellS130_1 HGz13
    have hfz13_0 := blk_frozen HGz13 0
    have hfz13_1 := blk_frozen HGz13 1
    clear HGz13 hgz13
    go_enter Tryd.func86, Tryd.ntmps86
    go_wp2
    go_ret2
    exact ⟨by first | rfl | (simp [errW_none, errW_some] <;> rfl) | (simp [*, errW_none, errW_some] <;> rfl), by repeat (first | (with_reducible first | exact HI0.out | apply IsS130.alloc | apply IsS130.drewN | apply IsS130.drew | apply IsS130.set_0 | apply IsS130.set_1) | exact HI0.out), by repeat (first | (with_reducible first | exact HB.out | apply below_alloc | apply pw_below_drewN | apply below_drew1 | refine below_set ?_ (IsS130.ge HI0.out)) | exact HB.out), by repeat (first | (with_reducible first | exact HK.out | apply KeepBut.set_ | apply keep_drewN | apply keep_drew | apply keep_alloc) | exact HK.out)⟩
-- NOT PRINTED: function 30 (codec_Writer_Bytes)
-- NOT PRINTED: function 80 (codec_put_uint16)
-- NOT PRINTED: function 58 (codec_Writer_U16)
-- NOT PRINTED: function 81 (codec_put_uint32)
-- NOT PRINTED: function 59 (codec_Writer_U32)
/-! ### crc_step: function 82 -/
def crc_step.f (a0 : Int) (a1 : Int) : Option (Int) := if 0 ≤ a1 ∧ a1 < 256 then some (Crc.stepI a0 a1) else none
set_option maxHeartbeats 8000000 in
set_option maxRecDepth 100000 in
theorem crc_step.calls (a0 : Int) (a1 : Int) (r : Int) (w : World) (h : crc_step.f a0 a1 = some r) (HL : Aside0 (Go.Proofs.YtnhjhaphfdlkfaaDoor.Crc.Laid w)) :
    Calls Tryd.prog 82 #[.int .u32 a0, .int .u8 a1] w fun e w' => e = .returned (.int .u32 r) ∧ Drawn0 w w' := by
  unfold crc_step.f at h
  split at h
  · rename_i hb
    cases h
    exact Crc.step_calls a0 a1 hb.1 hb.2 w HL.out
  · cases h
/-! ### crc_Update: function 60 -/
def crc_Update.l0 : Nat → Int → ByteArray → Int → Int → Option (Int)
  | 0, _, _, _, _ => none
  | k + 1, x0, x1, x9, x10 => if x10 < x9 then (if 0 ≤ x10 then (if x10 < (x1.size : Int) then ((crc_step.f x0 (bt x1 x10)).bind fun t103 => (crc_Update.l0 k t103 x1 x9 (wrap64 (x10 + 1)))) else (none)) else (none)) else (some (Go.bits .xor .u32 4294967295 x0))
def crc_Update.f (k : Nat) (a0 : Int) (a1 : ByteArray) : Option (Int) := crc_Update.l0 k (Go.bits .xor .u32 4294967295 a0) a1 (a1.size : Int) 0
set_option maxHeartbeats 8000000 in
set_option maxRecDepth 100000 in
theorem crc_Update.calls (k : Nat) (a0 : Int) (a1 : ByteArray) (r : Int) (w : World) (h : crc_Update.f k a0 a1 = some r) (HL : Aside0 (Go.Proofs.YtnhjhaphfdlkfaaDoor.Crc.Laid w)) :
    Calls Tryd.prog 60 #[.int .u32 a0, .string a1] w fun e w' => e = .returned (.int .u32 r) ∧ Drawn0 w w' := by
  have H : (crc_Update.l0 k (Go.bits .xor .u32 4294967295 a0) a1 (a1.size : Int) 0) = some r := h
  clear h
  have H' := Aside0.mk H
  clear H
  have hmx : IntKind.u32.max = 4294967295 := by decide
  go_enter Tryd.func60, Tryd.ntmps60
  go_wp2
  go_loopg [0, 10] k (fun kq v0 v10 w' => ∃ (x0_1 : Int) (x10_1 : Int), v0 = .int .u32 x0_1 ∧ v10 = .int .i64 x10_1 ∧ Aside0 (crc_Update.l0 kq x0_1 a1 (a1.size : Int) x10_1 = some r) ∧ Aside0 (kq ≤ k) ∧ Drawn0 w w')
  case atStart => exact ⟨(Go.bits .xor .u32 4294967295 a0), (0), (by first | rfl | (simp; done) | (simp [*]; done)), (by first | rfl | (simp; done) | (simp [*]; done)), H', ⟨Nat.le_refl _⟩, by repeat (first | exact Drawn0.refl _ | apply Drawn0.step)⟩
  case round =>
    clear H'
    try clear p2
    obtain ⟨x0_1, x10_1, rfl, rfl, HA, HK1, ⟨m1, rfl⟩⟩ := hrel
    cases gk with
    | zero => exact absurd HA.out (by simp [crc_Update.l0])
    | succ k1 =>
      have H := HA.out
      clear HA
      simp only [crc_Update.l0] at H
      by_cases c3 : x10_1 < (a1.size : Int)
      · rw [if_pos c3] at H
        have c3b0 : decide (x10_1 < (a1.size : Int)) = true := decide_eq_true c3
        clear c3
        by_cases c4 : 0 ≤ x10_1
        · rw [if_pos c4] at H
          have c4b0 : decide (0 ≤ x10_1) = true := decide_eq_true c4
          clear c4
          by_cases c5 : x10_1 < (a1.size : Int)
          · rw [if_pos c5] at H
            have c5b0 : decide (x10_1 < (a1.size : Int)) = true := decide_eq_true c5
            clear c5
            replace H := Option.bind_eq_some_iff.mp H
            obtain ⟨t103, A70, H⟩ := H
            replace H : (crc_Update.l0 k1 t103 a1 (a1.size : Int) (wrap64 (x10_1 + 1))) = some r := H
            have A7 := Aside0.mk A70
            clear A70
            have H' := Aside0.mk H
            clear H
            have p6 : 0 ≤ (x10_1 : Int) := of_decide_eq_true (by first | (with_reducible assumption) | assumption)
            have q6 : x10_1 < (a1.size : Int) := of_decide_eq_true (by first | (with_reducible assumption) | assumption)
            have hx6 := bt_at a1 x10_1
            replace p6 := eq_true p6
            replace q6 := eq_true q6
            go_wp2_with (first | ((with_reducible refine gate_callee (f := 82) rfl ?_); refine goesL_ (some 17) rfl rfl Tryd.func82 (by kernel_rfl) rfl #[.int .u32 x0_1, .int .u8 (bt a1 x10_1)] rfl (by (try simp only [List.map_toArray, List.map_cons, List.map_nil]); first | done | rfl | (simp only [List.length_drop, List.length_take]; rfl)) ?_; (with_reducible refine (crc_step.calls x0_1 (bt a1 x10_1) t103 _ A7.out ⟨by first | exact HL.out | ((repeat (first | exact HL.out | apply Go.Proofs.YtnhjhaphfdlkfaaDoor.Crc.laid_drewN | apply Go.Proofs.YtnhjhaphfdlkfaaDoor.Crc.laid_drew)); done) | exact Go.Proofs.YtnhjhaphfdlkfaaDoor.Crc.laid_below HL.out (by repeat (first | (with_reducible first | exact HB.out | apply below_alloc | apply pw_below_drewN | apply below_drew1) | exact HB.out))⟩).mono ?_); rintro e w' ⟨rfl, ⟨nd, rfl⟩⟩; refine ⟨_, rfl, ?_⟩))
            go_roundg k1
            case measure => have := HK1.out; omega
            case rel => exact ⟨(t103), (wrap64 (x10_1 + 1)), (by first | rfl | (simp; done) | (simp [*]; done)), (by first | rfl | (simp; done) | (simp [*]; done)), H', ⟨by have := HK1.out; omega⟩, by repeat (first | exact Drawn0.refl _ | apply Drawn0.step)⟩
          · rw [if_neg c5] at H
            exact absurd H (by simp)
        · rw [if_neg c4] at H
          exact absurd H (by simp)
      · rw [if_neg c3] at H
        have c3b0 : decide (x10_1 < (a1.size : Int)) = false := decide_eq_false c3
        clear c3
        obtain rfl := Option.some.inj H
        go_wp2
        go_ret
        exact ⟨by first | rfl | (simp; done) | (simp [*]; done), by repeat (first | exact Drawn0.refl _ | apply Drawn0.step)⟩
/-! ### crc_Sum: function 61 -/
def crc_Sum.f (k : Nat) (a0 : ByteArray) : Option (Int) := (crc_Update.f k 0 a0).bind fun t104 => (some t104)
set_option maxHeartbeats 8000000 in
set_option maxRecDepth 100000 in
theorem crc_Sum.calls (k : Nat) (a0 : ByteArray) (r : Int) (w : World) (h : crc_Sum.f k a0 = some r) (HL : Aside0 (Go.Proofs.YtnhjhaphfdlkfaaDoor.Crc.Laid w)) :
    Calls Tryd.prog 61 #[.string a0] w fun e w' => e = .returned (.int .u32 r) ∧ Drawn0 w w' := by
  have H : ((crc_Update.f k 0 a0).bind fun t104 => (some t104)) = some r := h
  clear h
  replace H := Option.bind_eq_some_iff.mp H
  obtain ⟨t104, A20, H⟩ := H
  replace H : (some t104) = some r := H
  have A2 := Aside0.mk A20
  clear A20
  obtain rfl := Option.some.inj H
  go_enter Tryd.func61, Tryd.ntmps61
  go_wp2_with (first | ((with_reducible refine gate_callee (f := 60) rfl ?_); refine goesL_ (some 4) rfl rfl Tryd.func60 (by kernel_rfl) rfl #[.int .u32 0, .string a0] rfl (by (try simp only [List.map_toArray, List.map_cons, List.map_nil]); first | done | rfl | (simp only [List.length_drop, List.length_take]; rfl)) ?_; (with_reducible refine (crc_Update.calls k 0 a0 t104 _ A2.out ⟨by first | exact HL.out | ((repeat (first | exact HL.out | apply Go.Proofs.YtnhjhaphfdlkfaaDoor.Crc.laid_drewN | apply Go.Proofs.YtnhjhaphfdlkfaaDoor.Crc.laid_drew)); done) | exact Go.Proofs.YtnhjhaphfdlkfaaDoor.Crc.laid_below HL.out (by repeat (first | (with_reducible first | exact HB.out | apply below_alloc | apply pw_below_drewN | apply below_drew1) | exact HB.out))⟩).mono ?_); rintro e w' ⟨rfl, ⟨nd, rfl⟩⟩; refine ⟨_, rfl, ?_⟩))
  go_ret
  exact ⟨by first | rfl | (simp; done) | (simp [*]; done), by repeat (first | exact Drawn0.refl _ | apply Drawn0.step)⟩
/-! ### frame_Put: function 29 -/
def frame_Put.f (k : Nat) (a0 : ByteArray) : Option (ByteArray × Int) := if (a0.size : Int) > 4096 then some ((⟨#[]⟩ : ByteArray), 3) else (crc_Sum.f k (strOfNums (Wr.leBytes (a0.size : Int) 2))).bind fun t1 => ((crc_Update.f k t1 a0).bind fun t2 => (if 0 ≤ t2 ∧ t2 < 4294967296 then some (strOfNums (Wr.leBytes (a0.size : Int) 2 ++ Wr.leBytes t2 4) ++ a0, 0) else none))
set_option maxHeartbeats 8000000 in
set_option maxRecDepth 100000 in
theorem frame_Put.calls (k : Nat) (a0 : ByteArray) (r1 : ByteArray) (r2 : Int) (w : World) (h : frame_Put.f k a0 = some (r1, r2)) (HL : Aside0 (Go.Proofs.YtnhjhaphfdlkfaaDoor.Crc.Laid w)) :
    Calls Tryd.prog 29 #[.string a0] w fun e w' => e = .returned (.tuple #[.string r1, .int .i64 r2]) ∧ Below w.heap.size w w' := by
  unfold frame_Put.f at h
  by_cases c : (a0.size : Int) > 4096
  · rw [if_pos c] at h
    cases h
    have c0 : decide (4096 < (a0.size : Int)) = true := decide_eq_true c
    have c1 : decide (4096 < a0.size) = true := decide_eq_true (by omega)
    clear c
    go_enter Tryd.func29, Tryd.ntmps29
    go_wp2
    go_ret2
    exact ⟨rfl, Below.refl _ _⟩
  · rw [if_neg c] at h
    obtain ⟨t1, h1, h⟩ := Option.bind_eq_some_iff.mp h
    obtain ⟨t2, h2, h⟩ := Option.bind_eq_some_iff.mp h
    split at h
    · rename_i hb
      obtain ⟨b0, b1⟩ := hb
      cases h
      have A1 := Aside0.mk h1
      have A2 := Aside0.mk h2
      clear h1 h2
      have c0 : decide (4096 < (a0.size : Int)) = false := decide_eq_false c
      have c1 : decide (4096 < a0.size) = false := decide_eq_false (by omega)
      have cs : a0.size ≤ 4096 := by omega
      clear c
      have HC := Lib.hid cs
      have hW0 : Wr.IsW (w.alloc (.cells #[.slice none 0 0] 74)) w.heap.size w.heap.size (.slice none 0 0) [] := Wr.isw_new w
      have HW0 := Lib.hid hW0
      clear hW0
      go_enter Tryd.func29, Tryd.ntmps29
      go_wp2_with fail
      refine (Wr.wU16 (a0.size : Int) (by omega) (by omega) w.heap.size w.heap.size (.slice none 0 0) [] _ HW0.out (by simp)).mono ?_
      rintro e w1 ⟨rfl, hw⟩
      have HW1 := Lib.hid hw
      clear hw
      go_wp2_with fail
      obtain ⟨v1, hW1, hK1, hB1, _⟩ := HW1.out
      have hA1 : Below w.heap.size w w1 := ((Below.refl _ _).alloc (Nat.le_refl _) _).trans hB1
      refine (Wr.wBytes w.heap.size w.heap.size v1 _ _ hW1 (by simp [Wr.leBytes])).mono ?_
      rintro e w2 ⟨rfl, ⟨n1, rfl⟩⟩
      have HX := Lib.hid hW1
      have HY := Lib.hid hA1
      clear hW1 hK1 hB1 hA1
      go_wp2_with fail
      refine (crc_Sum.calls k _ t1 _ A1.out ⟨Crc.laid_below HL.out (by repeat (first | exact HY.out | apply pw_below_drewN))⟩).mono ?_
      rintro e w3 ⟨rfl, ⟨n2, rfl⟩⟩
      go_wp2_with fail
      refine (crc_Update.calls k _ a0 t2 _ A2.out ⟨Crc.laid_below HL.out (by repeat (first | exact HY.out | apply pw_below_drewN))⟩).mono ?_
      rintro e w4 ⟨rfl, ⟨n3, rfl⟩⟩
      go_wp2_with fail
      refine (Wr.wU32 t2 b0 b1 w.heap.size w.heap.size v1 _ _ (Wr.isw_drewN HX.out (n1 + n2 + n3)) (by simp [Wr.leBytes])).mono ?_
      rintro e w5 ⟨rfl, v2, hW2, hK2, hB2, _⟩
      have HZ := Lib.hid (hW2)
      have HB := Lib.hid ((Below.trans (by repeat (first | exact HY.out | apply pw_below_drewN)) hB2 : Below w.heap.size w w5))
      clear hW2 hK2 hB2
      go_wp2_with fail
      refine (Wr.wBytes w.heap.size w.heap.size v2 _ _ HZ.out (by simp [Wr.leBytes])).mono ?_
      rintro e w6 ⟨rfl, ⟨n4, rfl⟩⟩
      have HS : (9223372036854775807 < (strOfNums (Wr.leBytes (↑a0.size) 2 ++ Wr.leBytes t2 4)).size + a0.size) = False := eq_false (by
        have := HC.out
        rw [Wr.str_size, List.length_append, Wr.leBytes_len, Wr.leBytes_len]
        omega)
      go_wp2
      go_ret2
      exact ⟨by simp, by apply pw_below_drewN; exact HB.out⟩
    · cases h
/-! ### codec_New: function 35 -/
def codec_New.f (a0 : ByteArray) : Option (ByteArray × Int) := some (a0, 0)
set_option maxHeartbeats 8000000 in
set_option maxRecDepth 100000 in
theorem codec_New.calls (a0 : ByteArray) (r1 : ByteArray) (r2 : Int) (w0 w : World) (hB : Below w0.heap.size w0 w) (h : codec_New.f a0 = some (r1, r2)) :
    Calls Tryd.prog 35 #[.string a0] w fun e w' => ∃ g_ : Nat, e = .returned (.pointer (some ⟨g_, 0, none⟩)) ∧ IsS130 w0 w' g_ r1 r2 ∧ Below w0.heap.size w0 w' ∧ Below w.heap.size w w' := by
  have hu128 := Tryd.underlying128
  have hu130 := Tryd.underlying130
  have HBW := Aside0.mk (Below.refl w.heap.size w)
  have HW0 := Aside0.mk hB.size
  have HB := Aside0.mk hB
  clear hB
  have H : (some (a0, 0)) = some (r1, r2) := h
  clear h
  simp only [Option.some.injEq, Prod.mk.injEq] at H
  obtain ⟨rfl, rfl⟩ := H
  go_enter Tryd.func35, Tryd.ntmps35
  go_wp2_with (first | ((with_reducible refine gate_dst (N := 6) rfl ?_); refine box_event ?hg (N := 6) ?hd (cs := #[.string a0, .int .i64 0]) (t := 130) ?hr ?_; (case hd => rfl); (case hg => rfl); (case hr => first | (go_simp; done) | (go_simp; rfl)); intro gb108 hg w2 hbox hb; have n0_ := Aside0.mk (below_step HBW.out hb); have n1_ := Aside0.mk (below_step (by repeat (first | (with_reducible first | exact HB.out | apply below_alloc | apply pw_below_drewN | apply below_drew1) | exact HB.out)) hb); have n2_ := Aside0.mk (hbox); have n3_ := Aside0.mk ((by rw [hg]; exact (below_size (by repeat (first | (with_reducible first | exact HBW.out | apply below_alloc | apply pw_below_drewN | apply below_drew1) | exact HBW.out))) : w.heap.size ≤ gb108)); have n4_ := Aside0.mk ((Nat.le_trans HW0.out (by rw [hg]; exact (below_size (by repeat (first | (with_reducible first | exact HBW.out | apply below_alloc | apply pw_below_drewN | apply below_drew1) | exact HBW.out))) : w.heap.size ≤ gb108) : w0.heap.size ≤ gb108)); clear HBW; clear HB; have HBW := n0_; have HB := n1_; have BK108 := n2_; have GW108 := n3_; have GE108 := n4_; clear n0_ n1_ n2_ n3_ n4_; clear hb hbox hg))
  go_ret
  exact ⟨_, rfl, (show IsS130 w0 _ gb108 a0 0 from ⟨by (with_reducible repeat (first | refine blk_drewN ?_ _ | refine blk_drew ?_ | refine blk_alloc ?_ _)); exact BK108.out, GE108.out⟩), by repeat (first | (with_reducible first | exact HB.out | apply below_alloc | apply pw_below_drewN | apply below_drew1 | refine below_set ?_ GE108.out) | exact HB.out), by repeat (first | (with_reducible first | exact HBW.out | apply below_alloc | apply pw_below_drewN | apply below_drew1 | refine below_set ?_ GW108.out) | exact HBW.out)⟩
/-! ### codec_Reader_Rest: function 39 -/
def codec_Reader_Rest.f (s0_0 : ByteArray) (s0_1 : Int) : Option (ByteArray × ByteArray × Int) := some (s0_0, s0_0, s0_1)
set_option maxHeartbeats 8000000 in
set_option maxRecDepth 100000 in
theorem codec_Reader_Rest.calls (g : Nat) (s0_0 : ByteArray) (s0_1 : Int) (r1 : ByteArray) (r2 : ByteArray) (r3 : Int) (w0 w : World) (hI : IsS130 w0 w g s0_0 s0_1) (hB : Below w0.heap.size w0 w) (h : codec_Reader_Rest.f s0_0 s0_1 = some (r1, r2, r3)) :
    Calls Tryd.prog 39 #[.pointer (some ⟨g, 0, none⟩)] w fun e w' => e = .returned (.string r1) ∧ IsS130 w0 w' g r2 r3 ∧ Below w0.heap.size w0 w' ∧ KeepBut w w' g none := by
  have HI0 := Aside0.mk hI
  have HK := Aside0.mk (KeepBut.refl w g none)
  have HL := Aside0.mk hB.size
  clear hI
  have HW0 := Aside0.mk hB.size
  have HB := Aside0.mk hB
  clear hB
  have H : (some (s0_0, s0_0, s0_1)) = some (r1, r2, r3) := h
  clear h
  simp only [Option.some.injEq, Prod.mk.injEq] at H
  obtain ⟨rfl, rfl, rfl⟩ := H
  obtain ⟨HGz2, hgz2⟩ := HI0.out
  have hcz2_0 := cellS130_0 HGz2
  have hcz2_1 := cellS130_1 HGz2
  have hfz2_0 := blk_frozen HGz2 0
  have hfz2_1 := blk_frozen HGz2 1
  clear HGz2 hgz2
  go_enter Tryd.func39, Tryd.ntmps39
  go_wp2
  go_ret
  exact ⟨by first | rfl | (simp [errW_none, errW_some] <;> rfl) | (simp [*, errW_none, errW_some] <;> rfl), by repeat (first | (with_reducible first | exact HI0.out | apply IsS130.alloc | apply IsS130.drewN | apply IsS130.drew | apply IsS130.set_0 | apply IsS130.set_1) | exact HI0.out), by repeat (first | (with_reducible first | exact HB.out | apply below_alloc | apply pw_below_drewN | apply below_drew1 | refine below_set ?_ (IsS130.ge HI0.out)) | exact HB.out), by repeat (first | (with_reducible first | exact HK.out | apply KeepBut.set_ | apply keep_drewN | apply keep_drew | apply keep_alloc) | exact HK.out)⟩
/-! ### codec_get_uint16: function 84 -/
def codec_get_uint16.l0 : Nat → Int → ByteArray → Int → Int → ByteArray → Int → Option (Int × ByteArray × Int)
  | 0, _, _, _, _, _, _ => none
  | k + 1, x4, x5, x20, x21, x1000, x1001 => if x21 < x20 then (if 0 ≤ x21 then (if x21 < (x5.size : Int) then (if 0 ≤ (wrap64 (8 * x21)) then (codec_get_uint16.l0 k (Go.bits .or .u16 x4 (IntKind.u16.wrap (shl .u64 (IntKind.u64.wrap (bt x5 x21)) (wrap64 (8 * x21))))) x5 x20 (wrap64 (x21 + 1)) x1000 x1001) else (none)) else (none)) else (none)) else (some (x4, x1000, x1001))
def codec_get_uint16.f (k : Nat) (s0_0 : ByteArray) (s0_1 : Int) (a1 : Int) : Option (Int × ByteArray × Int) := (codec_left_take.f s0_0 s0_1 (IntKind.u64.wrap (a1))).bind fun bt109 => (codec_get_uint16.l0 k 0 bt109.1 (bt109.1.size : Int) 0 bt109.2.2.1 bt109.2.2.2)
set_option maxHeartbeats 8000000 in
set_option maxRecDepth 100000 in
theorem codec_get_uint16.calls (k : Nat) (g : Nat) (s0_0 : ByteArray) (s0_1 : Int) (a1 : Int) (r1 : Int) (r2 : ByteArray) (r3 : Int) (w0 w : World) (hI : IsS130 w0 w g s0_0 s0_1) (hB : Below w0.heap.size w0 w) (h : codec_get_uint16.f k s0_0 s0_1 a1 = some (r1, r2, r3)) :
    Calls Tryd.prog 84 #[.pointer (some ⟨g, 0, none⟩), .int .i64 a1] w fun e w' => e = .returned (.int .u16 r1) ∧ IsS130 w0 w' g r2 r3 ∧ Below w0.heap.size w0 w' ∧ KeepBut w w' g none := by
  have HI0 := Aside0.mk hI
  have HK := Aside0.mk (KeepBut.refl w g none)
  have HL := Aside0.mk hB.size
  clear hI
  have HW0 := Aside0.mk hB.size
  have HB := Aside0.mk hB
  clear hB
  have H : ((codec_left_take.f s0_0 s0_1 (IntKind.u64.wrap (a1))).bind fun bt109 => (codec_get_uint16.l0 k 0 bt109.1 (bt109.1.size : Int) 0 bt109.2.2.1 bt109.2.2.2)) = some (r1, r2, r3) := h
  clear h
  replace H := Option.bind_eq_some_iff.mp H
  obtain ⟨⟨t109, t110, t111, t112⟩, A30, H⟩ := H
  replace H : (codec_get_uint16.l0 k 0 t109 (t109.size : Int) 0 t111 t112) = some (r1, r2, r3) := H
  have A3 := Aside0.mk A30
  clear A30
  have H' := Aside0.mk H
  clear H
  go_enter Tryd.func84, Tryd.ntmps84
  go_wp2_with (first | ((with_reducible refine gate_callee (f := 86) rfl ?_); refine goesL_ (some 16) rfl rfl Tryd.func86 (by kernel_rfl) rfl #[.pointer (some ⟨g, 0, none⟩), .int .u64 (IntKind.u64.wrap (a1))] rfl (by (try simp only [List.map_toArray, List.map_cons, List.map_nil]); first | done | rfl | (simp only [List.length_drop, List.length_take]; rfl)) ?_; (with_reducible refine (codec_left_take.calls g s0_0 s0_1 (IntKind.u64.wrap (a1)) t109 t110 t111 t112 w0 _ ?side1 ?side2 A3.out).mono ?_); (case side1 => repeat (first | (with_reducible first | exact HI0.out | apply IsS130.alloc | apply IsS130.drewN | apply IsS130.drew | apply IsS130.set_0 | apply IsS130.set_1) | exact HI0.out)); (case side2 => repeat (first | (with_reducible first | exact HB.out | apply below_alloc | apply pw_below_drewN | apply below_drew1 | refine below_set ?_ (IsS130.ge HI0.out)) | exact HB.out)); rintro e w4 ⟨rfl, hi, hb, hk⟩; refine ⟨_, rfl, ?_⟩; have n0_ := Aside0.mk (KeepBut.trans (by repeat (first | (with_reducible first | exact HK.out | apply KeepBut.set_ | apply keep_drewN | apply keep_drew | apply keep_alloc) | exact HK.out)) hk (.inl rfl)); have n1_ := Aside0.mk (hb); have n2_ := Aside0.mk (hi); clear HK; clear HB; clear HI0; have HK := n0_; have HB := n1_; have HI0 := n2_; clear n0_ n1_ n2_; (try clear hb); (try clear hb2); (try clear hk); (try clear hi)))
  go_loopg [4, 21] k (fun kq v4 v21 w' => ∃ (x4_1 : Int) (x21_1 : Int), v4 = .int .u16 x4_1 ∧ v21 = .int .i64 x21_1 ∧ Aside0 (codec_get_uint16.l0 kq x4_1 t109 (t109.size : Int) x21_1 t111 t112 = some (r1, r2, r3)) ∧ Aside0 (kq ≤ k) ∧ Aside0 (IsS130 w0 w' g t111 t112) ∧ Aside0 (KeepBut w w' g none) ∧ Aside0 (Below w0.heap.size w0 w'))
  case atStart => exact ⟨(0), (0), (by first | rfl | (simp; done) | (simp [*]; done)), (by first | rfl | (simp; done) | (simp [*]; done)), H', ⟨Nat.le_refl _⟩, ⟨by repeat (first | (with_reducible first | exact HI0.out | apply IsS130.alloc | apply IsS130.drewN | apply IsS130.drew | apply IsS130.set_0 | apply IsS130.set_1) | exact HI0.out)⟩, ⟨by repeat (first | (with_reducible first | exact HK.out | apply KeepBut.set_ | apply keep_drewN | apply keep_drew | apply keep_alloc) | exact HK.out)⟩, ⟨by repeat (first | (with_reducible first | exact HB.out | apply below_alloc | apply pw_below_drewN | apply below_drew1 | refine below_set ?_ (IsS130.ge HI0.out)) | exact HB.out)⟩⟩
  case round =>
    clear H'
    try clear p2
    obtain ⟨x4_1, x21_1, rfl, rfl, HA, HK1, HI0, HK, HB⟩ := hrel
    cases gk with
    | zero => exact absurd HA.out (by simp [codec_get_uint16.l0])
    | succ k1 =>
      have H := HA.out
      clear HA
      simp only [codec_get_uint16.l0] at H
      by_cases c5 : x21_1 < (t109.size : Int)
      · rw [if_pos c5] at H
        have c5b0 : decide (x21_1 < (t109.size : Int)) = true := decide_eq_true c5
        clear c5
        by_cases c6 : 0 ≤ x21_1
        · rw [if_pos c6] at H
          have c6b0 : decide (0 ≤ x21_1) = true := decide_eq_true c6
          clear c6
          by_cases c7 : x21_1 < (t109.size : Int)
          · rw [if_pos c7] at H
            have c7b0 : decide (x21_1 < (t109.size : Int)) = true := decide_eq_true c7
            clear c7
            obtain ⟨ji9, hji9⟩ : ∃ j_ : Int, (wrap64 (8 * x21_1)) = j_ := ⟨_, rfl⟩
            replace H : (if 0 ≤ (ji9) then (codec_get_uint16.l0 k1 (Go.bits .or .u16 x4_1 (IntKind.u16.wrap (shl .u64 (IntKind.u64.wrap (bt t109 x21_1)) (ji9)))) t109 (t109.size : Int) (wrap64 (x21_1 + 1)) t111 t112) else (none)) = some (r1, r2, r3) := by first | (rw [hji9] at H; exact H) | (simp only [hji9] at H ⊢; exact H)
            have hji9w : (IntKind.i64.wrap (8 * x21_1)) = ji9 := (i64_w _).trans hji9
            by_cases c10 : 0 ≤ (ji9)
            · rw [if_pos c10] at H
              have c10b0 := eq_true c10
              have c10b1 : decide (0 ≤ (ji9)) = true := decide_eq_true c10
              clear c10
              obtain ⟨ji11, hji11⟩ : ∃ j_ : Int, (shl .u64 (IntKind.u64.wrap (bt t109 x21_1)) (ji9)) = j_ := ⟨_, rfl⟩
              replace H : (codec_get_uint16.l0 k1 (Go.bits .or .u16 x4_1 (IntKind.u16.wrap (ji11))) t109 (t109.size : Int) (wrap64 (x21_1 + 1)) t111 t112) = some (r1, r2, r3) := by first | (rw [hji11] at H; exact H) | (simp only [hji11] at H ⊢; exact H)
              have hji11_ : (IntKind.u64.wrap ((IntKind.u64.wrap (bt t109 x21_1)) * 2 ^ min (ji9).toNat 64)) = ji11 := hji11
              have hji11z : (ji9) ≤ 64 → (IntKind.u64.wrap ((IntKind.u64.wrap (bt t109 x21_1)) * 2 ^ (ji9).toNat)) = ji11 := shl_small hji11
              have H' := Aside0.mk H
              clear H
              have p8 : 0 ≤ (x21_1 : Int) := of_decide_eq_true (by first | (with_reducible assumption) | assumption)
              have q8 : x21_1 < (t109.size : Int) := of_decide_eq_true (by first | (with_reducible assumption) | assumption)
              have hx8 := bt_at t109 x21_1
              replace p8 := eq_true p8
              replace q8 := eq_true q8
              go_wp2
              go_roundg k1
              case measure => have := HK1.out; omega
              case rel => exact ⟨(Go.bits .or .u16 x4_1 (IntKind.u16.wrap (ji11))), (wrap64 (x21_1 + 1)), (by first | rfl | (simp; done) | (simp only [← hji11] <;> (first | rfl | simp)) | (simp [*]; done)), (by first | rfl | (simp; done) | (simp [*]; done)), H', ⟨by have := HK1.out; omega⟩, ⟨by repeat (first | (with_reducible first | exact HI0.out | apply IsS130.alloc | apply IsS130.drewN | apply IsS130.drew | apply IsS130.set_0 | apply IsS130.set_1) | exact HI0.out)⟩, ⟨by repeat (first | (with_reducible first | exact HK.out | apply KeepBut.set_ | apply keep_drewN | apply keep_drew | apply keep_alloc) | exact HK.out)⟩, ⟨by repeat (first | (with_reducible first | exact HB.out | apply below_alloc | apply pw_below_drewN | apply below_drew1 | refine below_set ?_ (IsS130.ge HI0.out)) | exact HB.out)⟩⟩
            · rw [if_neg c10] at H
              exact absurd H (by simp)
          · rw [if_neg c7] at H
            exact absurd H (by simp)
        · rw [if_neg c6] at H
          exact absurd H (by simp)
      · rw [if_neg c5] at H
        have c5b0 : decide (x21_1 < (t109.size : Int)) = false := decide_eq_false c5
        clear c5
        simp only [Option.some.injEq, Prod.mk.injEq] at H
        obtain ⟨rfl, rfl, rfl⟩ := H
        go_wp2
        go_ret
        exact ⟨by first | rfl | (simp [errW_none, errW_some] <;> rfl) | (simp [*, errW_none, errW_some] <;> rfl), by repeat (first | (with_reducible first | exact HI0.out | apply IsS130.alloc | apply IsS130.drewN | apply IsS130.drew | apply IsS130.set_0 | apply IsS130.set_1) | exact HI0.out), by repeat (first | (with_reducible first | exact HB.out | apply below_alloc | apply pw_below_drewN | apply below_drew1 | refine below_set ?_ (IsS130.ge HI0.out)) | exact HB.out), by repeat (first | (with_reducible first | exact HK.out | apply KeepBut.set_ | apply keep_drewN | apply keep_drew | apply keep_alloc) | exact HK.out)⟩
/-! ### codec_Reader_U16: function 65 -/
def codec_Reader_U16.f (k : Nat) (s0_0 : ByteArray) (s0_1 : Int) : Option (Int × ByteArray × Int) := (codec_get_uint16.f k s0_0 s0_1 2).bind fun bt113 => (some (bt113.1, bt113.2.1, bt113.2.2))
set_option maxHeartbeats 8000000 in
set_option maxRecDepth 100000 in
theorem codec_Reader_U16.calls (k : Nat) (g : Nat) (s0_0 : ByteArray) (s0_1 : Int) (r1 : Int) (r2 : ByteArray) (r3 : Int) (w0 w : World) (hI : IsS130 w0 w g s0_0 s0_1) (hB : Below w0.heap.size w0 w) (h : codec_Reader_U16.f k s0_0 s0_1 = some (r1, r2, r3)) :
    Calls Tryd.prog 65 #[.pointer (some ⟨g, 0, none⟩)] w fun e w' => e = .returned (.int .u16 r1) ∧ IsS130 w0 w' g r2 r3 ∧ Below w0.heap.size w0 w' ∧ KeepBut w w' g none := by
  have HI0 := Aside0.mk hI
  have HK := Aside0.mk (KeepBut.refl w g none)
  have HL := Aside0.mk hB.size
  clear hI
  have HW0 := Aside0.mk hB.size
  have HB := Aside0.mk hB
  clear hB
  have H : ((codec_get_uint16.f k s0_0 s0_1 2).bind fun bt113 => (some (bt113.1, bt113.2.1, bt113.2.2))) = some (r1, r2, r3) := h
  clear h
  replace H := Option.bind_eq_some_iff.mp H
  obtain ⟨⟨t113, t114, t115⟩, A20, H⟩ := H
  replace H : (some (t113, t114, t115)) = some (r1, r2, r3) := H
  have A2 := Aside0.mk A20
  clear A20
  simp only [Option.some.injEq, Prod.mk.injEq] at H
  obtain ⟨rfl, rfl, rfl⟩ := H
  go_enter Tryd.func65, Tryd.ntmps65
  go_wp2_with (first | ((with_reducible refine gate_callee (f := 84) rfl ?_); refine goesL_ (some 4) rfl rfl Tryd.func84 (by kernel_rfl) rfl #[.pointer (some ⟨g, 0, none⟩), .int .i64 2] rfl (by (try simp only [List.map_toArray, List.map_cons, List.map_nil]); first | done | rfl | (simp only [List.length_drop, List.length_take]; rfl)) ?_; (with_reducible refine (codec_get_uint16.calls k g s0_0 s0_1 2 t113 t114 t115 w0 _ ?side1 ?side2 A2.out).mono ?_); (case side1 => repeat (first | (with_reducible first | exact HI0.out | apply IsS130.alloc | apply IsS130.drewN | apply IsS130.drew | apply IsS130.set_0 | apply IsS130.set_1) | exact HI0.out)); (case side2 => repeat (first | (with_reducible first | exact HB.out | apply below_alloc | apply pw_below_drewN | apply below_drew1 | refine below_set ?_ (IsS130.ge HI0.out)) | exact HB.out)); rintro e w3 ⟨rfl, hi, hb, hk⟩; refine ⟨_, rfl, ?_⟩; have n0_ := Aside0.mk (KeepBut.trans (by repeat (first | (with_reducible first | exact HK.out | apply KeepBut.set_ | apply keep_drewN | apply keep_drew | apply keep_alloc) | exact HK.out)) hk (.inl rfl)); have n1_ := Aside0.mk (hb); have n2_ := Aside0.mk (hi); clear HK; clear HB; clear HI0; have HK := n0_; have HB := n1_; have HI0 := n2_; clear n0_ n1_ n2_; (try clear hb); (try clear hb2); (try clear hk); (try clear hi)))
  go_ret
  exact ⟨by first | rfl | (simp [errW_none, errW_some] <;> rfl) | (simp [*, errW_none, errW_some] <;> rfl), by repeat (first | (with_reducible first | exact HI0.out | apply IsS130.alloc | apply IsS130.drewN | apply IsS130.drew | apply IsS130.set_0 | apply IsS130.set_1) | exact HI0.out), by repeat (first | (with_reducible first | exact HB.out | apply below_alloc | apply pw_below_drewN | apply below_drew1 | refine below_set ?_ (IsS130.ge HI0.out)) | exact HB.out), by repeat (first | (with_reducible first | exact HK.out | apply KeepBut.set_ | apply keep_drewN | apply keep_drew | apply keep_alloc) | exact HK.out)⟩
/-! ### codec_get_uint32: function 85 -/
def codec_get_uint32.l0 : Nat → Int → ByteArray → Int → Int → ByteArray → Int → Option (Int × ByteArray × Int)
  | 0, _, _, _, _, _, _ => none
  | k + 1, x4, x5, x20, x21, x1000, x1001 => if x21 < x20 then (if 0 ≤ x21 then (if x21 < (x5.size : Int) then (if 0 ≤ (wrap64 (8 * x21)) then (codec_get_uint32.l0 k (Go.bits .or .u32 x4 ((shl .u64 (IntKind.u64.wrap (bt x5 x21)) (wrap64 (8 * x21))) % 4294967296)) x5 x20 (wrap64 (x21 + 1)) x1000 x1001) else (none)) else (none)) else (none)) else (some (x4, x1000, x1001))
def codec_get_uint32.f (k : Nat) (s0_0 : ByteArray) (s0_1 : Int) (a1 : Int) : Option (Int × ByteArray × Int) := (codec_left_take.f s0_0 s0_1 (IntKind.u64.wrap (a1))).bind fun bt116 => (codec_get_uint32.l0 k 0 bt116.1 (bt116.1.size : Int) 0 bt116.2.2.1 bt116.2.2.2)
set_option maxHeartbeats 8000000 in
set_option maxRecDepth 100000 in
theorem codec_get_uint32.calls (k : Nat) (g : Nat) (s0_0 : ByteArray) (s0_1 : Int) (a1 : Int) (r1 : Int) (r2 : ByteArray) (r3 : Int) (w0 w : World) (hI : IsS130 w0 w g s0_0 s0_1) (hB : Below w0.heap.size w0 w) (h : codec_get_uint32.f k s0_0 s0_1 a1 = some (r1, r2, r3)) :
    Calls Tryd.prog 85 #[.pointer (some ⟨g, 0, none⟩), .int .i64 a1] w fun e w' => e = .returned (.int .u32 r1) ∧ IsS130 w0 w' g r2 r3 ∧ Below w0.heap.size w0 w' ∧ KeepBut w w' g none := by
  have HI0 := Aside0.mk hI
  have HK := Aside0.mk (KeepBut.refl w g none)
  have HL := Aside0.mk hB.size
  clear hI
  have HW0 := Aside0.mk hB.size
  have HB := Aside0.mk hB
  clear hB
  have H : ((codec_left_take.f s0_0 s0_1 (IntKind.u64.wrap (a1))).bind fun bt116 => (codec_get_uint32.l0 k 0 bt116.1 (bt116.1.size : Int) 0 bt116.2.2.1 bt116.2.2.2)) = some (r1, r2, r3) := h
  clear h
  replace H := Option.bind_eq_some_iff.mp H
  obtain ⟨⟨t116, t117, t118, t119⟩, A30, H⟩ := H
  replace H : (codec_get_uint32.l0 k 0 t116 (t116.size : Int) 0 t118 t119) = some (r1, r2, r3) := H
  have A3 := Aside0.mk A30
  clear A30
  have H' := Aside0.mk H
  clear H
  go_enter Tryd.func85, Tryd.ntmps85
  go_wp2_with (first | ((with_reducible refine gate_callee (f := 86) rfl ?_); refine goesL_ (some 16) rfl rfl Tryd.func86 (by kernel_rfl) rfl #[.pointer (some ⟨g, 0, none⟩), .int .u64 (IntKind.u64.wrap (a1))] rfl (by (try simp only [List.map_toArray, List.map_cons, List.map_nil]); first | done | rfl | (simp only [List.length_drop, List.length_take]; rfl)) ?_; (with_reducible refine (codec_left_take.calls g s0_0 s0_1 (IntKind.u64.wrap (a1)) t116 t117 t118 t119 w0 _ ?side1 ?side2 A3.out).mono ?_); (case side1 => repeat (first | (with_reducible first | exact HI0.out | apply IsS130.alloc | apply IsS130.drewN | apply IsS130.drew | apply IsS130.set_0 | apply IsS130.set_1) | exact HI0.out)); (case side2 => repeat (first | (with_reducible first | exact HB.out | apply below_alloc | apply pw_below_drewN | apply below_drew1 | refine below_set ?_ (IsS130.ge HI0.out)) | exact HB.out)); rintro e w4 ⟨rfl, hi, hb, hk⟩; refine ⟨_, rfl, ?_⟩; have n0_ := Aside0.mk (KeepBut.trans (by repeat (first | (with_reducible first | exact HK.out | apply KeepBut.set_ | apply keep_drewN | apply keep_drew | apply keep_alloc) | exact HK.out)) hk (.inl rfl)); have n1_ := Aside0.mk (hb); have n2_ := Aside0.mk (hi); clear HK; clear HB; clear HI0; have HK := n0_; have HB := n1_; have HI0 := n2_; clear n0_ n1_ n2_; (try clear hb); (try clear hb2); (try clear hk); (try clear hi)))
  go_loopg [4, 21] k (fun kq v4 v21 w' => ∃ (x4_1 : Int) (x21_1 : Int), v4 = .int .u32 x4_1 ∧ v21 = .int .i64 x21_1 ∧ Aside0 (codec_get_uint32.l0 kq x4_1 t116 (t116.size : Int) x21_1 t118 t119 = some (r1, r2, r3)) ∧ Aside0 (kq ≤ k) ∧ Aside0 (IsS130 w0 w' g t118 t119) ∧ Aside0 (KeepBut w w' g none) ∧ Aside0 (Below w0.heap.size w0 w'))
  case atStart => exact ⟨(0), (0), (by first | rfl | (simp; done) | (simp [*]; done)), (by first | rfl | (simp; done) | (simp [*]; done)), H', ⟨Nat.le_refl _⟩, ⟨by repeat (first | (with_reducible first | exact HI0.out | apply IsS130.alloc | apply IsS130.drewN | apply IsS130.drew | apply IsS130.set_0 | apply IsS130.set_1) | exact HI0.out)⟩, ⟨by repeat (first | (with_reducible first | exact HK.out | apply KeepBut.set_ | apply keep_drewN | apply keep_drew | apply keep_alloc) | exact HK.out)⟩, ⟨by repeat (first | (with_reducible first | exact HB.out | apply below_alloc | apply pw_below_drewN | apply below_drew1 | refine below_set ?_ (IsS130.ge HI0.out)) | exact HB.out)⟩⟩
  case round =>
    clear H'
    try clear p2
    obtain ⟨x4_1, x21_1, rfl, rfl, HA, HK1, HI0, HK, HB⟩ := hrel
    cases gk with
    | zero => exact absurd HA.out (by simp [codec_get_uint32.l0])
    | succ k1 =>
      have H := HA.out
      clear HA
      simp only [codec_get_uint32.l0] at H
      by_cases c5 : x21_1 < (t116.size : Int)
      · rw [if_pos c5] at H
        have c5b0 : decide (x21_1 < (t116.size : Int)) = true := decide_eq_true c5
        clear c5
        by_cases c6 : 0 ≤ x21_1
        · rw [if_pos c6] at H
          have c6b0 : decide (0 ≤ x21_1) = true := decide_eq_true c6
          clear c6
          by_cases c7 : x21_1 < (t116.size : Int)
          · rw [if_pos c7] at H
            have c7b0 : decide (x21_1 < (t116.size : Int)) = true := decide_eq_true c7
            clear c7
            obtain ⟨ji9, hji9⟩ : ∃ j_ : Int, (wrap64 (8 * x21_1)) = j_ := ⟨_, rfl⟩
            replace H : (if 0 ≤ (ji9) then (codec_get_uint32.l0 k1 (Go.bits .or .u32 x4_1 ((shl .u64 (IntKind.u64.wrap (bt t116 x21_1)) (ji9)) % 4294967296)) t116 (t116.size : Int) (wrap64 (x21_1 + 1)) t118 t119) else (none)) = some (r1, r2, r3) := by first | (rw [hji9] at H; exact H) | (simp only [hji9] at H ⊢; exact H)
            have hji9w : (IntKind.i64.wrap (8 * x21_1)) = ji9 := (i64_w _).trans hji9
            by_cases c10 : 0 ≤ (ji9)
            · rw [if_pos c10] at H
              have c10b0 := eq_true c10
              have c10b1 : decide (0 ≤ (ji9)) = true := decide_eq_true c10
              clear c10
              obtain ⟨ji11, hji11⟩ : ∃ j_ : Int, (shl .u64 (IntKind.u64.wrap (bt t116 x21_1)) (ji9)) = j_ := ⟨_, rfl⟩
              replace H : (codec_get_uint32.l0 k1 (Go.bits .or .u32 x4_1 ((ji11) % 4294967296)) t116 (t116.size : Int) (wrap64 (x21_1 + 1)) t118 t119) = some (r1, r2, r3) := by first | (rw [hji11] at H; exact H) | (simp only [hji11] at H ⊢; exact H)
              have hji11_ : (IntKind.u64.wrap ((IntKind.u64.wrap (bt t116 x21_1)) * 2 ^ min (ji9).toNat 64)) = ji11 := hji11
              have hji11z : (ji9) ≤ 64 → (IntKind.u64.wrap ((IntKind.u64.wrap (bt t116 x21_1)) * 2 ^ (ji9).toNat)) = ji11 := shl_small hji11
              have H' := Aside0.mk H
              clear H
              have p8 : 0 ≤ (x21_1 : Int) := of_decide_eq_true (by first | (with_reducible assumption) | assumption)
              have q8 : x21_1 < (t116.size : Int) := of_decide_eq_true (by first | (with_reducible assumption) | assumption)
              have hx8 := bt_at t116 x21_1
              replace p8 := eq_true p8
              replace q8 := eq_true q8
              go_wp2
              go_roundg k1
              case measure => have := HK1.out; omega
              case rel => exact ⟨(Go.bits .or .u32 x4_1 ((ji11) % 4294967296)), (wrap64 (x21_1 + 1)), (by first | rfl | (simp; done) | (simp only [← hji11] <;> (first | rfl | simp)) | (simp [*]; done)), (by first | rfl | (simp; done) | (simp [*]; done)), H', ⟨by have := HK1.out; omega⟩, ⟨by repeat (first | (with_reducible first | exact HI0.out | apply IsS130.alloc | apply IsS130.drewN | apply IsS130.drew | apply IsS130.set_0 | apply IsS130.set_1) | exact HI0.out)⟩, ⟨by repeat (first | (with_reducible first | exact HK.out | apply KeepBut.set_ | apply keep_drewN | apply keep_drew | apply keep_alloc) | exact HK.out)⟩, ⟨by repeat (first | (with_reducible first | exact HB.out | apply below_alloc | apply pw_below_drewN | apply below_drew1 | refine below_set ?_ (IsS130.ge HI0.out)) | exact HB.out)⟩⟩
            · rw [if_neg c10] at H
              exact absurd H (by simp)
          · rw [if_neg c7] at H
            exact absurd H (by simp)
        · rw [if_neg c6] at H
          exact absurd H (by simp)
      · rw [if_neg c5] at H
        have c5b0 : decide (x21_1 < (t116.size : Int)) = false := decide_eq_false c5
        clear c5
        simp only [Option.some.injEq, Prod.mk.injEq] at H
        obtain ⟨rfl, rfl, rfl⟩ := H
        go_wp2
        go_ret
        exact ⟨by first | rfl | (simp [errW_none, errW_some] <;> rfl) | (simp [*, errW_none, errW_some] <;> rfl), by repeat (first | (with_reducible first | exact HI0.out | apply IsS130.alloc | apply IsS130.drewN | apply IsS130.drew | apply IsS130.set_0 | apply IsS130.set_1) | exact HI0.out), by repeat (first | (with_reducible first | exact HB.out | apply below_alloc | apply pw_below_drewN | apply below_drew1 | refine below_set ?_ (IsS130.ge HI0.out)) | exact HB.out), by repeat (first | (with_reducible first | exact HK.out | apply KeepBut.set_ | apply keep_drewN | apply keep_drew | apply keep_alloc) | exact HK.out)⟩
/-! ### codec_Reader_U32: function 66 -/
def codec_Reader_U32.f (k : Nat) (s0_0 : ByteArray) (s0_1 : Int) : Option (Int × ByteArray × Int) := (codec_get_uint32.f k s0_0 s0_1 4).bind fun bt120 => (some (bt120.1, bt120.2.1, bt120.2.2))
set_option maxHeartbeats 8000000 in
set_option maxRecDepth 100000 in
theorem codec_Reader_U32.calls (k : Nat) (g : Nat) (s0_0 : ByteArray) (s0_1 : Int) (r1 : Int) (r2 : ByteArray) (r3 : Int) (w0 w : World) (hI : IsS130 w0 w g s0_0 s0_1) (hB : Below w0.heap.size w0 w) (h : codec_Reader_U32.f k s0_0 s0_1 = some (r1, r2, r3)) :
    Calls Tryd.prog 66 #[.pointer (some ⟨g, 0, none⟩)] w fun e w' => e = .returned (.int .u32 r1) ∧ IsS130 w0 w' g r2 r3 ∧ Below w0.heap.size w0 w' ∧ KeepBut w w' g none := by
  have HI0 := Aside0.mk hI
  have HK := Aside0.mk (KeepBut.refl w g none)
  have HL := Aside0.mk hB.size
  clear hI
  have HW0 := Aside0.mk hB.size
  have HB := Aside0.mk hB
  clear hB
  have H : ((codec_get_uint32.f k s0_0 s0_1 4).bind fun bt120 => (some (bt120.1, bt120.2.1, bt120.2.2))) = some (r1, r2, r3) := h
  clear h
  replace H := Option.bind_eq_some_iff.mp H
  obtain ⟨⟨t120, t121, t122⟩, A20, H⟩ := H
  replace H : (some (t120, t121, t122)) = some (r1, r2, r3) := H
  have A2 := Aside0.mk A20
  clear A20
  simp only [Option.some.injEq, Prod.mk.injEq] at H
  obtain ⟨rfl, rfl, rfl⟩ := H
  go_enter Tryd.func66, Tryd.ntmps66
  go_wp2_with (first | ((with_reducible refine gate_callee (f := 85) rfl ?_); refine goesL_ (some 4) rfl rfl Tryd.func85 (by kernel_rfl) rfl #[.pointer (some ⟨g, 0, none⟩), .int .i64 4] rfl (by (try simp only [List.map_toArray, List.map_cons, List.map_nil]); first | done | rfl | (simp only [List.length_drop, List.length_take]; rfl)) ?_; (with_reducible refine (codec_get_uint32.calls k g s0_0 s0_1 4 t120 t121 t122 w0 _ ?side1 ?side2 A2.out).mono ?_); (case side1 => repeat (first | (with_reducible first | exact HI0.out | apply IsS130.alloc | apply IsS130.drewN | apply IsS130.drew | apply IsS130.set_0 | apply IsS130.set_1) | exact HI0.out)); (case side2 => repeat (first | (with_reducible first | exact HB.out | apply below_alloc | apply pw_below_drewN | apply below_drew1 | refine below_set ?_ (IsS130.ge HI0.out)) | exact HB.out)); rintro e w3 ⟨rfl, hi, hb, hk⟩; refine ⟨_, rfl, ?_⟩; have n0_ := Aside0.mk (KeepBut.trans (by repeat (first | (with_reducible first | exact HK.out | apply KeepBut.set_ | apply keep_drewN | apply keep_drew | apply keep_alloc) | exact HK.out)) hk (.inl rfl)); have n1_ := Aside0.mk (hb); have n2_ := Aside0.mk (hi); clear HK; clear HB; clear HI0; have HK := n0_; have HB := n1_; have HI0 := n2_; clear n0_ n1_ n2_; (try clear hb); (try clear hb2); (try clear hk); (try clear hi)))
  go_ret
  exact ⟨by first | rfl | (simp [errW_none, errW_some] <;> rfl) | (simp [*, errW_none, errW_some] <;> rfl), by repeat (first | (with_reducible first | exact HI0.out | apply IsS130.alloc | apply IsS130.drewN | apply IsS130.drew | apply IsS130.set_0 | apply IsS130.set_1) | exact HI0.out), by repeat (first | (with_reducible first | exact HB.out | apply below_alloc | apply pw_below_drewN | apply below_drew1 | refine below_set ?_ (IsS130.ge HI0.out)) | exact HB.out), by repeat (first | (with_reducible first | exact HK.out | apply KeepBut.set_ | apply keep_drewN | apply keep_drew | apply keep_alloc) | exact HK.out)⟩
end Go.Proofs.YtnhjhaphfdlkfaaDoor.HF
-- out of the translation's print, by a program and by hand (wip/tools/hp.py)
namespace Go.Proofs.YtnhjhaphfdlkfaaDoor.HF
open Go.RowKit Go.Proofs.YtnhjhaphfdlkfaaDoorW.PrintWords Go.Proofs.YtnhjhaphfdlkfaaDoorW.PrintLast Go.Proofs.YtnhjhaphfdlkfaaDoorW.PrintMore
attribute [local go_sem] max2_int min2_int max_two min_two max_three min_three max_four min_four   -- for this text's walks alone
set_option linter.unusedVariables false
set_option linter.unusedSimpArgs false
/-! ### frame_Next: function 34 -/
def frame_Next.f (k : Nat) (a0 : ByteArray) : Option (ByteArray × Int × Int) := if (a0.size : Int) < 6 then (some ((⟨#[]⟩ : ByteArray), 0, 10)) else ((codec_New.f a0).bind fun bt123 => ((codec_Reader_U16.f k bt123.1 bt123.2).bind fun bt126 => ((codec_Reader_U32.f k bt126.2.1 bt126.2.2).bind fun bt129 => ((codec_Reader_Rest.f bt129.2.1 bt129.2.2).bind fun bt132 => (if (wrap64 (bt126.1)) > 4096 then (some ((⟨#[]⟩ : ByteArray), 0, 3)) else (if (bt132.1.size : Int) < (wrap64 (bt126.1)) then (some ((⟨#[]⟩ : ByteArray), 0, 10)) else (if 0 ≤ 2 then (if 2 ≤ (a0.size : Int) then ((crc_Sum.f k (a0.extract 0 2)).bind fun t135 => (if 0 ≤ (wrap64 (bt126.1)) then (if (wrap64 (bt126.1)) ≤ (bt132.1.size : Int) then ((crc_Update.f k t135 (bt132.1.extract 0 ((wrap64 (bt126.1)) : Int).toNat)).bind fun t136 => (if t136 = bt129.1 then (some (bt132.1.extract 0 ((wrap64 (bt126.1)) : Int).toNat, wrap64 (6 + (wrap64 (bt126.1))), 0)) else (some ((⟨#[]⟩ : ByteArray), 0, 9)))) else (none)) else (none))) else (none)) else (none))))))))
set_option maxHeartbeats 8000000 in
set_option maxRecDepth 100000 in
theorem frame_Next.calls (k : Nat) (a0 : ByteArray) (r1 : ByteArray) (r2 : Int) (r3 : Int) (w : World) (h : frame_Next.f k a0 = some (r1, r2, r3)) (HL : Aside0 (Go.Proofs.YtnhjhaphfdlkfaaDoor.Crc.Laid w)) :
    Calls Tryd.prog 34 #[.string a0] w fun e w' => e = .returned (.tuple #[.string r1, .int .i64 r2, .int .i64 r3]) ∧ Below w.heap.size w w' := by
  have HB := Aside0.mk (Below.refl w.heap.size w)
  have H : (if (a0.size : Int) < 6 then (some ((⟨#[]⟩ : ByteArray), 0, 10)) else ((codec_New.f a0).bind fun bt123 => ((codec_Reader_U16.f k bt123.1 bt123.2).bind fun bt126 => ((codec_Reader_U32.f k bt126.2.1 bt126.2.2).bind fun bt129 => ((codec_Reader_Rest.f bt129.2.1 bt129.2.2).bind fun bt132 => (if (wrap64 (bt126.1)) > 4096 then (some ((⟨#[]⟩ : ByteArray), 0, 3)) else (if (bt132.1.size : Int) < (wrap64 (bt126.1)) then (some ((⟨#[]⟩ : ByteArray), 0, 10)) else (if 0 ≤ 2 then (if 2 ≤ (a0.size : Int) then ((crc_Sum.f k (a0.extract 0 2)).bind fun t135 => (if 0 ≤ (wrap64 (bt126.1)) then (if (wrap64 (bt126.1)) ≤ (bt132.1.size : Int) then ((crc_Update.f k t135 (bt132.1.extract 0 ((wrap64 (bt126.1)) : Int).toNat)).bind fun t136 => (if t136 = bt129.1 then (some (bt132.1.extract 0 ((wrap64 (bt126.1)) : Int).toNat, wrap64 (6 + (wrap64 (bt126.1))), 0)) else (some ((⟨#[]⟩ : ByteArray), 0, 9)))) else (none)) else (none))) else (none)) else (none))))))))) = some (r1, r2, r3) := h
  clear h
  by_cases c2 : (a0.size : Int) < 6
  · rw [if_pos c2] at H
    have c2b0 : decide ((a0.size : Int) < 6) = true := decide_eq_true c2
    have c2b1 : decide (a0.size < 6) = true := decide_eq_true (by omega)
    clear c2
    simp only [Option.some.injEq, Prod.mk.injEq] at H
    obtain ⟨rfl, rfl, rfl⟩ := H
    go_enter Tryd.func34, Tryd.ntmps34
    go_wp2
    repeat (go_quiet (fail); try go_wp2)
    go_ret3
    exact ⟨by first | rfl | (simp [errW_none, errW_some] <;> rfl) | (simp [*, errW_none, errW_some] <;> rfl), by repeat (first | (with_reducible first | exact HB.out | apply below_alloc | apply pw_below_drewN | apply below_drew1) | exact HB.out)⟩
  · rw [if_neg c2] at H
    have c2b0 : decide ((a0.size : Int) < 6) = false := decide_eq_false c2
    have c2b1 : decide (a0.size < 6) = false := decide_eq_false (by omega)
    clear c2
    replace H := Option.bind_eq_some_iff.mp H
    obtain ⟨⟨t123, t124⟩, A30, H⟩ := H
    replace H : ((codec_Reader_U16.f k t123 t124).bind fun bt126 => ((codec_Reader_U32.f k bt126.2.1 bt126.2.2).bind fun bt129 => ((codec_Reader_Rest.f bt129.2.1 bt129.2.2).bind fun bt132 => (if (wrap64 (bt126.1)) > 4096 then (some ((⟨#[]⟩ : ByteArray), 0, 3)) else (if (bt132.1.size : Int) < (wrap64 (bt126.1)) then (some ((⟨#[]⟩ : ByteArray), 0, 10)) else (if 0 ≤ 2 then (if 2 ≤ (a0.size : Int) then ((crc_Sum.f k (a0.extract 0 2)).bind fun t135 => (if 0 ≤ (wrap64 (bt126.1)) then (if (wrap64 (bt126.1)) ≤ (bt132.1.size : Int) then ((crc_Update.f k t135 (bt132.1.extract 0 ((wrap64 (bt126.1)) : Int).toNat)).bind fun t136 => (if t136 = bt129.1 then (some (bt132.1.extract 0 ((wrap64 (bt126.1)) : Int).toNat, wrap64 (6 + (wrap64 (bt126.1))), 0)) else (some ((⟨#[]⟩ : ByteArray), 0, 9)))) else (none)) else (none))) else (none)) else (none))))))) = some (r1, r2, r3) := H
    have A3 := Aside0.mk A30
    clear A30
    replace H := Option.bind_eq_some_iff.mp H
    obtain ⟨⟨t126, t127, t128⟩, A40, H⟩ := H
    replace H : ((codec_Reader_U32.f k t127 t128).bind fun bt129 => ((codec_Reader_Rest.f bt129.2.1 bt129.2.2).bind fun bt132 => (if (wrap64 (t126)) > 4096 then (some ((⟨#[]⟩ : ByteArray), 0, 3)) else (if (bt132.1.size : Int) < (wrap64 (t126)) then (some ((⟨#[]⟩ : ByteArray), 0, 10)) else (if 0 ≤ 2 then (if 2 ≤ (a0.size : Int) then ((crc_Sum.f k (a0.extract 0 2)).bind fun t135 => (if 0 ≤ (wrap64 (t126)) then (if (wrap64 (t126)) ≤ (bt132.1.size : Int) then ((crc_Update.f k t135 (bt132.1.extract 0 ((wrap64 (t126)) : Int).toNat)).bind fun t136 => (if t136 = bt129.1 then (some (bt132.1.extract 0 ((wrap64 (t126)) : Int).toNat, wrap64 (6 + (wrap64 (t126))), 0)) else (some ((⟨#[]⟩ : ByteArray), 0, 9)))) else (none)) else (none))) else (none)) else (none)))))) = some (r1, r2, r3) := H
    have A4 := Aside0.mk A40
    clear A40
    replace H := Option.bind_eq_some_iff.mp H
    obtain ⟨⟨t129, t130, t131⟩, A50, H⟩ := H
    replace H : ((codec_Reader_Rest.f t130 t131).bind fun bt132 => (if (wrap64 (t126)) > 4096 then (some ((⟨#[]⟩ : ByteArray), 0, 3)) else (if (bt132.1.size : Int) < (wrap64 (t126)) then (some ((⟨#[]⟩ : ByteArray), 0, 10)) else (if 0 ≤ 2 then (if 2 ≤ (a0.size : Int) then ((crc_Sum.f k (a0.extract 0 2)).bind fun t135 => (if 0 ≤ (wrap64 (t126)) then (if (wrap64 (t126)) ≤ (bt132.1.size : Int) then ((crc_Update.f k t135 (bt132.1.extract 0 ((wrap64 (t126)) : Int).toNat)).bind fun t136 => (if t136 = t129 then (some (bt132.1.extract 0 ((wrap64 (t126)) : Int).toNat, wrap64 (6 + (wrap64 (t126))), 0)) else (some ((⟨#[]⟩ : ByteArray), 0, 9)))) else (none)) else (none))) else (none)) else (none))))) = some (r1, r2, r3) := H
    have A5 := Aside0.mk A50
    clear A50
    replace H := Option.bind_eq_some_iff.mp H
    obtain ⟨⟨t132, t133, t134⟩, A60, H⟩ := H
    replace H : (if (wrap64 (t126)) > 4096 then (some ((⟨#[]⟩ : ByteArray), 0, 3)) else (if (t132.size : Int) < (wrap64 (t126)) then (some ((⟨#[]⟩ : ByteArray), 0, 10)) else (if 0 ≤ 2 then (if 2 ≤ (a0.size : Int) then ((crc_Sum.f k (a0.extract 0 2)).bind fun t135 => (if 0 ≤ (wrap64 (t126)) then (if (wrap64 (t126)) ≤ (t132.size : Int) then ((crc_Update.f k t135 (t132.extract 0 ((wrap64 (t126)) : Int).toNat)).bind fun t136 => (if t136 = t129 then (some (t132.extract 0 ((wrap64 (t126)) : Int).toNat, wrap64 (6 + (wrap64 (t126))), 0)) else (some ((⟨#[]⟩ : ByteArray), 0, 9)))) else (none)) else (none))) else (none)) else (none)))) = some (r1, r2, r3) := H
    have A6 := Aside0.mk A60
    clear A60
    by_cases c7 : (wrap64 (t126)) > 4096
    · rw [if_pos c7] at H
      have c7b0 : decide (4096 < (wrap64 (t126))) = true := decide_eq_true c7
      clear c7
      simp only [Option.some.injEq, Prod.mk.injEq] at H
      obtain ⟨rfl, rfl, rfl⟩ := H
      go_enter Tryd.func34, Tryd.ntmps34
      go_wp2_with (first | (go_at_call 35; (with_reducible refine (codec_New.calls a0 t123 t124 w _ ?side1 A3.out).mono ?_); (case side1 => repeat (first | (with_reducible first | exact HB.out | apply below_alloc | apply pw_below_drewN | apply below_drew1) | exact HB.out)); rintro e w8 ⟨g125, rfl, hi, hb, hb2⟩; have n0_ := Aside0.mk (hb); have n1_ := Aside0.mk (hi); clear HB; have HB := n0_; have HI125 := n1_; clear n0_ n1_; (try clear hb); (try clear hb2); (try clear hk); (try clear hi)) | (go_at_call 65; (with_reducible refine (codec_Reader_U16.calls k g125 t123 t124 t126 t127 t128 w _ ?side1 ?side2 A4.out).mono ?_); (case side1 => repeat (first | (with_reducible first | exact HI125.out | apply IsS130.alloc | apply IsS130.drewN | apply IsS130.drew | apply IsS130.set_0 | apply IsS130.set_1) | exact HI125.out)); (case side2 => repeat (first | (with_reducible first | exact HB.out | apply below_alloc | apply pw_below_drewN | apply below_drew1 | refine below_set ?_ (IsS130.ge HI125.out)) | exact HB.out)); rintro e w9 ⟨rfl, hi, hb, hk⟩; have n0_ := Aside0.mk (hb); have n1_ := Aside0.mk (hi); clear HB; clear HI125; have HB := n0_; have HI125 := n1_; clear n0_ n1_; (try clear hb); (try clear hb2); (try clear hk); (try clear hi)) | (go_at_call 66; (with_reducible refine (codec_Reader_U32.calls k g125 t127 t128 t129 t130 t131 w _ ?side1 ?side2 A5.out).mono ?_); (case side1 => repeat (first | (with_reducible first | exact HI125.out | apply IsS130.alloc | apply IsS130.drewN | apply IsS130.drew | apply IsS130.set_0 | apply IsS130.set_1) | exact HI125.out)); (case side2 => repeat (first | (with_reducible first | exact HB.out | apply below_alloc | apply pw_below_drewN | apply below_drew1 | refine below_set ?_ (IsS130.ge HI125.out)) | exact HB.out)); rintro e w10 ⟨rfl, hi, hb, hk⟩; have n0_ := Aside0.mk (hb); have n1_ := Aside0.mk (hi); clear HB; clear HI125; have HB := n0_; have HI125 := n1_; clear n0_ n1_; (try clear hb); (try clear hb2); (try clear hk); (try clear hi)) | (go_at_call 39; (with_reducible refine (codec_Reader_Rest.calls g125 t130 t131 t132 t133 t134 w _ ?side1 ?side2 A6.out).mono ?_); (case side1 => repeat (first | (with_reducible first | exact HI125.out | apply IsS130.alloc | apply IsS130.drewN | apply IsS130.drew | apply IsS130.set_0 | apply IsS130.set_1) | exact HI125.out)); (case side2 => repeat (first | (with_reducible first | exact HB.out | apply below_alloc | apply pw_below_drewN | apply below_drew1 | refine below_set ?_ (IsS130.ge HI125.out)) | exact HB.out)); rintro e w11 ⟨rfl, hi, hb, hk⟩; have n0_ := Aside0.mk (hb); have n1_ := Aside0.mk (hi); clear HB; clear HI125; have HB := n0_; have HI125 := n1_; clear n0_ n1_; (try clear hb); (try clear hb2); (try clear hk); (try clear hi)))
      repeat (go_quiet (first | (go_at_call 35; (with_reducible refine (codec_New.calls a0 t123 t124 w _ ?side1 A3.out).mono ?_); (case side1 => repeat (first | (with_reducible first | exact HB.out | apply below_alloc | apply pw_below_drewN | apply below_drew1) | exact HB.out)); rintro e w8 ⟨g125, rfl, hi, hb, hb2⟩; have n0_ := Aside0.mk (hb); have n1_ := Aside0.mk (hi); clear HB; have HB := n0_; have HI125 := n1_; clear n0_ n1_; (try clear hb); (try clear hb2); (try clear hk); (try clear hi)) | (go_at_call 65; (with_reducible refine (codec_Reader_U16.calls k g125 t123 t124 t126 t127 t128 w _ ?side1 ?side2 A4.out).mono ?_); (case side1 => repeat (first | (with_reducible first | exact HI125.out | apply IsS130.alloc | apply IsS130.drewN | apply IsS130.drew | apply IsS130.set_0 | apply IsS130.set_1) | exact HI125.out)); (case side2 => repeat (first | (with_reducible first | exact HB.out | apply below_alloc | apply pw_below_drewN | apply below_drew1 | refine below_set ?_ (IsS130.ge HI125.out)) | exact HB.out)); rintro e w9 ⟨rfl, hi, hb, hk⟩; have n0_ := Aside0.mk (hb); have n1_ := Aside0.mk (hi); clear HB; clear HI125; have HB := n0_; have HI125 := n1_; clear n0_ n1_; (try clear hb); (try clear hb2); (try clear hk); (try clear hi)) | (go_at_call 66; (with_reducible refine (codec_Reader_U32.calls k g125 t127 t128 t129 t130 t131 w _ ?side1 ?side2 A5.out).mono ?_); (case side1 => repeat (first | (with_reducible first | exact HI125.out | apply IsS130.alloc | apply IsS130.drewN | apply IsS130.drew | apply IsS130.set_0 | apply IsS130.set_1) | exact HI125.out)); (case side2 => repeat (first | (with_reducible first | exact HB.out | apply below_alloc | apply pw_below_drewN | apply below_drew1 | refine below_set ?_ (IsS130.ge HI125.out)) | exact HB.out)); rintro e w10 ⟨rfl, hi, hb, hk⟩; have n0_ := Aside0.mk (hb); have n1_ := Aside0.mk (hi); clear HB; clear HI125; have HB := n0_; have HI125 := n1_; clear n0_ n1_; (try clear hb); (try clear hb2); (try clear hk); (try clear hi)) | (go_at_call 39; (with_reducible refine (codec_Reader_Rest.calls g125 t130 t131 t132 t133 t134 w _ ?side1 ?side2 A6.out).mono ?_); (case side1 => repeat (first | (with_reducible first | exact HI125.out | apply IsS130.alloc | apply IsS130.drewN | apply IsS130.drew | apply IsS130.set_0 | apply IsS130.set_1) | exact HI125.out)); (case side2 => repeat (first | (with_reducible first | exact HB.out | apply below_alloc | apply pw_below_drewN | apply below_drew1 | refine below_set ?_ (IsS130.ge HI125.out)) | exact HB.out)); rintro e w11 ⟨rfl, hi, hb, hk⟩; have n0_ := Aside0.mk (hb); have n1_ := Aside0.mk (hi); clear HB; clear HI125; have HB := n0_; have HI125 := n1_; clear n0_ n1_; (try clear hb); (try clear hb2); (try clear hk); (try clear hi))); try go_wp2_with (first | (go_at_call 35; (with_reducible refine (codec_New.calls a0 t123 t124 w _ ?side1 A3.out).mono ?_); (case side1 => repeat (first | (with_reducible first | exact HB.out | apply below_alloc | apply pw_below_drewN | apply below_drew1) | exact HB.out)); rintro e w8 ⟨g125, rfl, hi, hb, hb2⟩; have n0_ := Aside0.mk (hb); have n1_ := Aside0.mk (hi); clear HB; have HB := n0_; have HI125 := n1_; clear n0_ n1_; (try clear hb); (try clear hb2); (try clear hk); (try clear hi)) | (go_at_call 65; (with_reducible refine (codec_Reader_U16.calls k g125 t123 t124 t126 t127 t128 w _ ?side1 ?side2 A4.out).mono ?_); (case side1 => repeat (first | (with_reducible first | exact HI125.out | apply IsS130.alloc | apply IsS130.drewN | apply IsS130.drew | apply IsS130.set_0 | apply IsS130.set_1) | exact HI125.out)); (case side2 => repeat (first | (with_reducible first | exact HB.out | apply below_alloc | apply pw_below_drewN | apply below_drew1 | refine below_set ?_ (IsS130.ge HI125.out)) | exact HB.out)); rintro e w9 ⟨rfl, hi, hb, hk⟩; have n0_ := Aside0.mk (hb); have n1_ := Aside0.mk (hi); clear HB; clear HI125; have HB := n0_; have HI125 := n1_; clear n0_ n1_; (try clear hb); (try clear hb2); (try clear hk); (try clear hi)) | (go_at_call 66; (with_reducible refine (codec_Reader_U32.calls k g125 t127 t128 t129 t130 t131 w _ ?side1 ?side2 A5.out).mono ?_); (case side1 => repeat (first | (with_reducible first | exact HI125.out | apply IsS130.alloc | apply IsS130.drewN | apply IsS130.drew | apply IsS130.set_0 | apply IsS130.set_1) | exact HI125.out)); (case side2 => repeat (first | (with_reducible first | exact HB.out | apply below_alloc | apply pw_below_drewN | apply below_drew1 | refine below_set ?_ (IsS130.ge HI125.out)) | exact HB.out)); rintro e w10 ⟨rfl, hi, hb, hk⟩; have n0_ := Aside0.mk (hb); have n1_ := Aside0.mk (hi); clear HB; clear HI125; have HB := n0_; have HI125 := n1_; clear n0_ n1_; (try clear hb); (try clear hb2); (try clear hk); (try clear hi)) | (go_at_call 39; (with_reducible refine (codec_Reader_Rest.calls g125 t130 t131 t132 t133 t134 w _ ?side1 ?side2 A6.out).mono ?_); (case side1 => repeat (first | (with_reducible first | exact HI125.out | apply IsS130.alloc | apply IsS130.drewN | apply IsS130.drew | apply IsS130.set_0 | apply IsS130.set_1) | exact HI125.out)); (case side2 => repeat (first | (with_reducible first | exact HB.out | apply below_alloc | apply pw_below_drewN | apply below_drew1 | refine below_set ?_ (IsS130.ge HI125.out)) | exact HB.out)); rintro e w11 ⟨rfl, hi, hb, hk⟩; have n0_ := Aside0.mk (hb); have n1_ := Aside0.mk (hi); clear HB; clear HI125; have HB := n0_; have HI125 := n1_; clear n0_ n1_; (try clear hb); (try clear hb2); (try clear hk); (try clear hi))))
      go_ret3
      exact ⟨by first | rfl | (simp [errW_none, errW_some] <;> rfl) | (simp [*, errW_none, errW_some] <;> rfl), by repeat (first | (with_reducible first | exact HB.out | apply below_alloc | apply pw_below_drewN | apply below_drew1 | refine below_set ?_ (IsS130.ge HI125.out)) | exact HB.out)⟩
    · rw [if_neg c7] at H
      have c7b0 : decide (4096 < (wrap64 (t126))) = false := decide_eq_false c7
      clear c7
      by_cases c12 : (t132.size : Int) < (wrap64 (t126))
      · rw [if_pos c12] at H
        have c12b0 : decide ((t132.size : Int) < (wrap64 (t126))) = true := decide_eq_true c12
        clear c12
        simp only [Option.some.injEq, Prod.mk.injEq] at H
        obtain ⟨rfl, rfl, rfl⟩ := H
        go_enter Tryd.func34, Tryd.ntmps34
        go_wp2_with (first | (go_at_call 35; (with_reducible refine (codec_New.calls a0 t123 t124 w _ ?side1 A3.out).mono ?_); (case side1 => repeat (first | (with_reducible first | exact HB.out | apply below_alloc | apply pw_below_drewN | apply below_drew1) | exact HB.out)); rintro e w13 ⟨g125, rfl, hi, hb, hb2⟩; have n0_ := Aside0.mk (hb); have n1_ := Aside0.mk (hi); clear HB; have HB := n0_; have HI125 := n1_; clear n0_ n1_; (try clear hb); (try clear hb2); (try clear hk); (try clear hi)) | (go_at_call 65; (with_reducible refine (codec_Reader_U16.calls k g125 t123 t124 t126 t127 t128 w _ ?side1 ?side2 A4.out).mono ?_); (case side1 => repeat (first | (with_reducible first | exact HI125.out | apply IsS130.alloc | apply IsS130.drewN | apply IsS130.drew | apply IsS130.set_0 | apply IsS130.set_1) | exact HI125.out)); (case side2 => repeat (first | (with_reducible first | exact HB.out | apply below_alloc | apply pw_below_drewN | apply below_drew1 | refine below_set ?_ (IsS130.ge HI125.out)) | exact HB.out)); rintro e w14 ⟨rfl, hi, hb, hk⟩; have n0_ := Aside0.mk (hb); have n1_ := Aside0.mk (hi); clear HB; clear HI125; have HB := n0_; have HI125 := n1_; clear n0_ n1_; (try clear hb); (try clear hb2); (try clear hk); (try clear hi)) | (go_at_call 66; (with_reducible refine (codec_Reader_U32.calls k g125 t127 t128 t129 t130 t131 w _ ?side1 ?side2 A5.out).mono ?_); (case side1 => repeat (first | (with_reducible first | exact HI125.out | apply IsS130.alloc | apply IsS130.drewN | apply IsS130.drew | apply IsS130.set_0 | apply IsS130.set_1) | exact HI125.out)); (case side2 => repeat (first | (with_reducible first | exact HB.out | apply below_alloc | apply pw_below_drewN | apply below_drew1 | refine below_set ?_ (IsS130.ge HI125.out)) | exact HB.out)); rintro e w15 ⟨rfl, hi, hb, hk⟩; have n0_ := Aside0.mk (hb); have n1_ := Aside0.mk (hi); clear HB; clear HI125; have HB := n0_; have HI125 := n1_; clear n0_ n1_; (try clear hb); (try clear hb2); (try clear hk); (try clear hi)) | (go_at_call 39; (with_reducible refine (codec_Reader_Rest.calls g125 t130 t131 t132 t133 t134 w _ ?side1 ?side2 A6.out).mono ?_); (case side1 => repeat (first | (with_reducible first | exact HI125.out | apply IsS130.alloc | apply IsS130.drewN | apply IsS130.drew | apply IsS130.set_0 | apply IsS130.set_1) | exact HI125.out)); (case side2 => repeat (first | (with_reducible first | exact HB.out | apply below_alloc | apply pw_below_drewN | apply below_drew1 | refine below_set ?_ (IsS130.ge HI125.out)) | exact HB.out)); rintro e w16 ⟨rfl, hi, hb, hk⟩; have n0_ := Aside0.mk (hb); have n1_ := Aside0.mk (hi); clear HB; clear HI125; have HB := n0_; have HI125 := n1_; clear n0_ n1_; (try clear hb); (try clear hb2); (try clear hk); (try clear hi)))
        repeat (go_quiet (first | (go_at_call 35; (with_reducible refine (codec_New.calls a0 t123 t124 w _ ?side1 A3.out).mono ?_); (case side1 => repeat (first | (with_reducible first | exact HB.out | apply below_alloc | apply pw_below_drewN | apply below_drew1) | exact HB.out)); rintro e w13 ⟨g125, rfl, hi, hb, hb2⟩; have n0_ := Aside0.mk (hb); have n1_ := Aside0.mk (hi); clear HB; have HB := n0_; have HI125 := n1_; clear n0_ n1_; (try clear hb); (try clear hb2); (try clear hk); (try clear hi)) | (go_at_call 65; (with_reducible refine (codec_Reader_U16.calls k g125 t123 t124 t126 t127 t128 w _ ?side1 ?side2 A4.out).mono ?_); (case side1 => repeat (first | (with_reducible first | exact HI125.out | apply IsS130.alloc | apply IsS130.drewN | apply IsS130.drew | apply IsS130.set_0 | apply IsS130.set_1) | exact HI125.out)); (case side2 => repeat (first | (with_reducible first | exact HB.out | apply below_alloc | apply pw_below_drewN | apply below_drew1 | refine below_set ?_ (IsS130.ge HI125.out)) | exact HB.out)); rintro e w14 ⟨rfl, hi, hb, hk⟩; have n0_ := Aside0.mk (hb); have n1_ := Aside0.mk (hi); clear HB; clear HI125; have HB := n0_; have HI125 := n1_; clear n0_ n1_; (try clear hb); (try clear hb2); (try clear hk); (try clear hi)) | (go_at_call 66; (with_reducible refine (codec_Reader_U32.calls k g125 t127 t128 t129 t130 t131 w _ ?side1 ?side2 A5.out).mono ?_); (case side1 => repeat (first | (with_reducible first | exact HI125.out | apply IsS130.alloc | apply IsS130.drewN | apply IsS130.drew | apply IsS130.set_0 | apply IsS130.set_1) | exact HI125.out)); (case side2 => repeat (first | (with_reducible first | exact HB.out | apply below_alloc | apply pw_below_drewN | apply below_drew1 | refine below_set ?_ (IsS130.ge HI125.out)) | exact HB.out)); rintro e w15 ⟨rfl, hi, hb, hk⟩; have n0_ := Aside0.mk (hb); have n1_ := Aside0.mk (hi); clear HB; clear HI125; have HB := n0_; have HI125 := n1_; clear n0_ n1_; (try clear hb); (try clear hb2); (try clear hk); (try clear hi)) | (go_at_call 39; (with_reducible refine (codec_Reader_Rest.calls g125 t130 t131 t132 t133 t134 w _ ?side1 ?side2 A6.out).mono ?_); (case side1 => repeat (first | (with_reducible first | exact HI125.out | apply IsS130.alloc | apply IsS130.drewN | apply IsS130.drew | apply IsS130.set_0 | apply IsS130.set_1) | exact HI125.out)); (case side2 => repeat (first | (with_reducible first | exact HB.out | apply below_alloc | apply pw_below_drewN | apply below_drew1 | refine below_set ?_ (IsS130.ge HI125.out)) | exact HB.out)); rintro e w16 ⟨rfl, hi, hb, hk⟩; have n0_ := Aside0.mk (hb); have n1_ := Aside0.mk (hi); clear HB; clear HI125; have HB := n0_; have HI125 := n1_; clear n0_ n1_; (try clear hb); (try clear hb2); (try clear hk); (try clear hi))); try go_wp2_with (first | (go_at_call 35; (with_reducible refine (codec_New.calls a0 t123 t124 w _ ?side1 A3.out).mono ?_); (case side1 => repeat (first | (with_reducible first | exact HB.out | apply below_alloc | apply pw_below_drewN | apply below_drew1) | exact HB.out)); rintro e w13 ⟨g125, rfl, hi, hb, hb2⟩; have n0_ := Aside0.mk (hb); have n1_ := Aside0.mk (hi); clear HB; have HB := n0_; have HI125 := n1_; clear n0_ n1_; (try clear hb); (try clear hb2); (try clear hk); (try clear hi)) | (go_at_call 65; (with_reducible refine (codec_Reader_U16.calls k g125 t123 t124 t126 t127 t128 w _ ?side1 ?side2 A4.out).mono ?_); (case side1 => repeat (first | (with_reducible first | exact HI125.out | apply IsS130.alloc | apply IsS130.drewN | apply IsS130.drew | apply IsS130.set_0 | apply IsS130.set_1) | exact HI125.out)); (case side2 => repeat (first | (with_reducible first | exact HB.out | apply below_alloc | apply pw_below_drewN | apply below_drew1 | refine below_set ?_ (IsS130.ge HI125.out)) | exact HB.out)); rintro e w14 ⟨rfl, hi, hb, hk⟩; have n0_ := Aside0.mk (hb); have n1_ := Aside0.mk (hi); clear HB; clear HI125; have HB := n0_; have HI125 := n1_; clear n0_ n1_; (try clear hb); (try clear hb2); (try clear hk); (try clear hi)) | (go_at_call 66; (with_reducible refine (codec_Reader_U32.calls k g125 t127 t128 t129 t130 t131 w _ ?side1 ?side2 A5.out).mono ?_); (case side1 => repeat (first | (with_reducible first | exact HI125.out | apply IsS130.alloc | apply IsS130.drewN | apply IsS130.drew | apply IsS130.set_0 | apply IsS130.set_1) | exact HI125.out)); (case side2 => repeat (first | (with_reducible first | exact HB.out | apply below_alloc | apply pw_below_drewN | apply below_drew1 | refine below_set ?_ (IsS130.ge HI125.out)) | exact HB.out)); rintro e w15 ⟨rfl, hi, hb, hk⟩; have n0_ := Aside0.mk (hb); have n1_ := Aside0.mk (hi); clear HB; clear HI125; have HB := n0_; have HI125 := n1_; clear n0_ n1_; (try clear hb); (try clear hb2); (try clear hk); (try clear hi)) | (go_at_call 39; (with_reducible refine (codec_Reader_Rest.calls g125 t130 t131 t132 t133 t134 w _ ?side1 ?side2 A6.out).mono ?_); (case side1 => repeat (first | (with_reducible first | exact HI125.out | apply IsS130.alloc | apply IsS130.drewN | apply IsS130.drew | apply IsS130.set_0 | apply IsS130.set_1) | exact HI125.out)); (case side2 => repeat (first | (with_reducible first | exact HB.out | apply below_alloc | apply pw_below_drewN | apply below_drew1 | refine below_set ?_ (IsS130.ge HI125.out)) | exact HB.out)); rintro e w16 ⟨rfl, hi, hb, hk⟩; have n0_ := Aside0.mk (hb); have n1_ := Aside0.mk (hi); clear HB; clear HI125; have HB := n0_; have HI125 := n1_; clear n0_ n1_; (try clear hb); (try clear hb2); (try clear hk); (try clear hi))))
        go_ret3
        exact ⟨by first | rfl | (simp [errW_none, errW_some] <;> rfl) | (simp [*, errW_none, errW_some] <;> rfl), by repeat (first | (with_reducible first | exact HB.out | apply below_alloc | apply pw_below_drewN | apply below_drew1 | refine below_set ?_ (IsS130.ge HI125.out)) | exact HB.out)⟩
      · rw [if_neg c12] at H
        have c12b0 : decide ((t132.size : Int) < (wrap64 (t126))) = false := decide_eq_false c12
        clear c12
        by_cases c17 : 0 ≤ 2
        · rw [if_pos c17] at H
          have c17b0 := eq_true c17
          have c17b1 : decide (0 ≤ 2) = true := decide_eq_true c17
          clear c17
          by_cases c18 : 2 ≤ (a0.size : Int)
          · rw [if_pos c18] at H
            have c18b0 := eq_true c18
            have c18b1 : decide (2 ≤ (a0.size : Int)) = true := decide_eq_true c18
            clear c18
            replace H := Option.bind_eq_some_iff.mp H
            obtain ⟨t135, A190, H⟩ := H
            replace H : (if 0 ≤ (wrap64 (t126)) then (if (wrap64 (t126)) ≤ (t132.size : Int) then ((crc_Update.f k t135 (t132.extract 0 ((wrap64 (t126)) : Int).toNat)).bind fun t136 => (if t136 = t129 then (some (t132.extract 0 ((wrap64 (t126)) : Int).toNat, wrap64 (6 + (wrap64 (t126))), 0)) else (some ((⟨#[]⟩ : ByteArray), 0, 9)))) else (none)) else (none)) = some (r1, r2, r3) := H
            have A19 := Aside0.mk A190
            clear A190
            obtain ⟨ji20, hji20⟩ : ∃ j_ : Int, (wrap64 (t126)) = j_ := ⟨_, rfl⟩
            replace H : (if 0 ≤ (ji20) then (if (ji20) ≤ (t132.size : Int) then ((crc_Update.f k t135 (t132.extract 0 ((ji20) : Int).toNat)).bind fun t136 => (if t136 = t129 then (some (t132.extract 0 ((ji20) : Int).toNat, wrap64 (6 + (ji20)), 0)) else (some ((⟨#[]⟩ : ByteArray), 0, 9)))) else (none)) else (none)) = some (r1, r2, r3) := by first | (rw [hji20] at H; exact H) | (simp only [hji20] at H ⊢; exact H)
            (try rw [hji20] at c7b0)
            (try rw [hji20] at c12b0)
            (try rw [hji20] at A3)
            (try rw [hji20] at A4)
            (try rw [hji20] at A5)
            (try rw [hji20] at A6)
            (try rw [hji20] at A19)
            have hji20w : (IntKind.i64.wrap (t126)) = ji20 := (i64_w _).trans hji20
            by_cases c21 : 0 ≤ (ji20)
            · rw [if_pos c21] at H
              have c21b0 := eq_true c21
              have c21b1 : decide (0 ≤ (ji20)) = true := decide_eq_true c21
              clear c21
              by_cases c22 : (ji20) ≤ (t132.size : Int)
              · rw [if_pos c22] at H
                have c22b0 := eq_true c22
                have c22b1 : decide ((ji20) ≤ (t132.size : Int)) = true := decide_eq_true c22
                clear c22
                replace H := Option.bind_eq_some_iff.mp H
                obtain ⟨t136, A230, H⟩ := H
                replace H : (if t136 = t129 then (some (t132.extract 0 ((ji20) : Int).toNat, wrap64 (6 + (ji20)), 0)) else (some ((⟨#[]⟩ : ByteArray), 0, 9))) = some (r1, r2, r3) := H
                have A23 := Aside0.mk A230
                clear A230
                by_cases c24 : t136 = t129
                · rw [if_pos c24] at H
                  have c24b0 : (t136 == t129) = true := beq_iff_eq.mpr c24
                  have c24b1 : (t136 != t129) = false := bne_eq_false_iff_eq.mpr c24
                  clear c24
                  have c25b0 := eq_true (of_decide_eq_true (by first | (with_reducible assumption) | assumption) : 0 ≤ (ji20))
                  have c26b0 := eq_true (of_decide_eq_true (by first | (with_reducible assumption) | assumption) : (ji20) ≤ (t132.size : Int))
                  simp only [Option.some.injEq, Prod.mk.injEq] at H
                  obtain ⟨rfl, rfl, rfl⟩ := H
                  go_enter Tryd.func34, Tryd.ntmps34
                  go_wp2_with (first | (go_at_call 35; (with_reducible refine (codec_New.calls a0 t123 t124 w _ ?side1 A3.out).mono ?_); (case side1 => repeat (first | (with_reducible first | exact HB.out | apply below_alloc | apply pw_below_drewN | apply below_drew1) | exact HB.out)); rintro e w27 ⟨g125, rfl, hi, hb, hb2⟩; have n0_ := Aside0.mk (hb); have n1_ := Aside0.mk (hi); clear HB; have HB := n0_; have HI125 := n1_; clear n0_ n1_; (try clear hb); (try clear hb2); (try clear hk); (try clear hi)) | (go_at_call 65; (with_reducible refine (codec_Reader_U16.calls k g125 t123 t124 t126 t127 t128 w _ ?side1 ?side2 A4.out).mono ?_); (case side1 => repeat (first | (with_reducible first | exact HI125.out | apply IsS130.alloc | apply IsS130.drewN | apply IsS130.drew | apply IsS130.set_0 | apply IsS130.set_1) | exact HI125.out)); (case side2 => repeat (first | (with_reducible first | exact HB.out | apply below_alloc | apply pw_below_drewN | apply below_drew1 | refine below_set ?_ (IsS130.ge HI125.out)) | exact HB.out)); rintro e w28 ⟨rfl, hi, hb, hk⟩; have n0_ := Aside0.mk (hb); have n1_ := Aside0.mk (hi); clear HB; clear HI125; have HB := n0_; have HI125 := n1_; clear n0_ n1_; (try clear hb); (try clear hb2); (try clear hk); (try clear hi)) | (go_at_call 66; (with_reducible refine (codec_Reader_U32.calls k g125 t127 t128 t129 t130 t131 w _ ?side1 ?side2 A5.out).mono ?_); (case side1 => repeat (first | (with_reducible first | exact HI125.out | apply IsS130.alloc | apply IsS130.drewN | apply IsS130.drew | apply IsS130.set_0 | apply IsS130.set_1) | exact HI125.out)); (case side2 => repeat (first | (with_reducible first | exact HB.out | apply below_alloc | apply pw_below_drewN | apply below_drew1 | refine below_set ?_ (IsS130.ge HI125.out)) | exact HB.out)); rintro e w29 ⟨rfl, hi, hb, hk⟩; have n0_ := Aside0.mk (hb); have n1_ := Aside0.mk (hi); clear HB; clear HI125; have HB := n0_; have HI125 := n1_; clear n0_ n1_; (try clear hb); (try clear hb2); (try clear hk); (try clear hi)) | (go_at_call 39; (with_reducible refine (codec_Reader_Rest.calls g125 t130 t131 t132 t133 t134 w _ ?side1 ?side2 A6.out).mono ?_); (case side1 => repeat (first | (with_reducible first | exact HI125.out | apply IsS130.alloc | apply IsS130.drewN | apply IsS130.drew | apply IsS130.set_0 | apply IsS130.set_1) | exact HI125.out)); (case side2 => repeat (first | (with_reducible first | exact HB.out | apply below_alloc | apply pw_below_drewN | apply below_drew1 | refine below_set ?_ (IsS130.ge HI125.out)) | exact HB.out)); rintro e w30 ⟨rfl, hi, hb, hk⟩; have n0_ := Aside0.mk (hb); have n1_ := Aside0.mk (hi); clear HB; clear HI125; have HB := n0_; have HI125 := n1_; clear n0_ n1_; (try clear hb); (try clear hb2); (try clear hk); (try clear hi)) | (go_at_call 61; (with_reducible refine (crc_Sum.calls k (a0.extract 0 2) t135 _ A19.out ⟨by first | exact HL.out | ((repeat (first | exact HL.out | apply Go.Proofs.YtnhjhaphfdlkfaaDoor.Crc.laid_drewN | apply Go.Proofs.YtnhjhaphfdlkfaaDoor.Crc.laid_drew)); done) | exact Go.Proofs.YtnhjhaphfdlkfaaDoor.Crc.laid_below HL.out (by repeat (first | (with_reducible first | exact HB.out | apply below_alloc | apply pw_below_drewN | apply below_drew1) | exact HB.out))⟩).mono ?_); rintro e w' ⟨rfl, ⟨nd, rfl⟩⟩; (try first | exact ⟨rfl, _, World.drewN_drewN _ _ _⟩ | exact ⟨rfl, _, Eq.trans (World.drewN_drewN _ _ _) (congrArg (World.drewN _) (Nat.add_assoc _ _ _))⟩)) | (go_at_call 60; (with_reducible refine (crc_Update.calls k t135 (t132.extract 0 ((ji20) : Int).toNat) t136 _ A23.out ⟨by first | exact HL.out | ((repeat (first | exact HL.out | apply Go.Proofs.YtnhjhaphfdlkfaaDoor.Crc.laid_drewN | apply Go.Proofs.YtnhjhaphfdlkfaaDoor.Crc.laid_drew)); done) | exact Go.Proofs.YtnhjhaphfdlkfaaDoor.Crc.laid_below HL.out (by repeat (first | (with_reducible first | exact HB.out | apply below_alloc | apply pw_below_drewN | apply below_drew1) | exact HB.out))⟩).mono ?_); rintro e w' ⟨rfl, ⟨nd, rfl⟩⟩; (try first | exact ⟨rfl, _, World.drewN_drewN _ _ _⟩ | exact ⟨rfl, _, Eq.trans (World.drewN_drewN _ _ _) (congrArg (World.drewN _) (Nat.add_assoc _ _ _))⟩)))
                  repeat (go_quiet (first | (go_at_call 35; (with_reducible refine (codec_New.calls a0 t123 t124 w _ ?side1 A3.out).mono ?_); (case side1 => repeat (first | (with_reducible first | exact HB.out | apply below_alloc | apply pw_below_drewN | apply below_drew1) | exact HB.out)); rintro e w27 ⟨g125, rfl, hi, hb, hb2⟩; have n0_ := Aside0.mk (hb); have n1_ := Aside0.mk (hi); clear HB; have HB := n0_; have HI125 := n1_; clear n0_ n1_; (try clear hb); (try clear hb2); (try clear hk); (try clear hi)) | (go_at_call 65; (with_reducible refine (codec_Reader_U16.calls k g125 t123 t124 t126 t127 t128 w _ ?side1 ?side2 A4.out).mono ?_); (case side1 => repeat (first | (with_reducible first | exact HI125.out | apply IsS130.alloc | apply IsS130.drewN | apply IsS130.drew | apply IsS130.set_0 | apply IsS130.set_1) | exact HI125.out)); (case side2 => repeat (first | (with_reducible first | exact HB.out | apply below_alloc | apply pw_below_drewN | apply below_drew1 | refine below_set ?_ (IsS130.ge HI125.out)) | exact HB.out)); rintro e w28 ⟨rfl, hi, hb, hk⟩; have n0_ := Aside0.mk (hb); have n1_ := Aside0.mk (hi); clear HB; clear HI125; have HB := n0_; have HI125 := n1_; clear n0_ n1_; (try clear hb); (try clear hb2); (try clear hk); (try clear hi)) | (go_at_call 66; (with_reducible refine (codec_Reader_U32.calls k g125 t127 t128 t129 t130 t131 w _ ?side1 ?side2 A5.out).mono ?_); (case side1 => repeat (first | (with_reducible first | exact HI125.out | apply IsS130.alloc | apply IsS130.drewN | apply IsS130.drew | apply IsS130.set_0 | apply IsS130.set_1) | exact HI125.out)); (case side2 => repeat (first | (with_reducible first | exact HB.out | apply below_alloc | apply pw_below_drewN | apply below_drew1 | refine below_set ?_ (IsS130.ge HI125.out)) | exact HB.out)); rintro e w29 ⟨rfl, hi, hb, hk⟩; have n0_ := Aside0.mk (hb); have n1_ := Aside0.mk (hi); clear HB; clear HI125; have HB := n0_; have HI125 := n1_; clear n0_ n1_; (try clear hb); (try clear hb2); (try clear hk); (try clear hi)) | (go_at_call 39; (with_reducible refine (codec_Reader_Rest.calls g125 t130 t131 t132 t133 t134 w _ ?side1 ?side2 A6.out).mono ?_); (case side1 => repeat (first | (with_reducible first | exact HI125.out | apply IsS130.alloc | apply IsS130.drewN | apply IsS130.drew | apply IsS130.set_0 | apply IsS130.set_1) | exact HI125.out)); (case side2 => repeat (first | (with_reducible first | exact HB.out | apply below_alloc | apply pw_below_drewN | apply below_drew1 | refine below_set ?_ (IsS130.ge HI125.out)) | exact HB.out)); rintro e w30 ⟨rfl, hi, hb, hk⟩; have n0_ := Aside0.mk (hb); have n1_ := Aside0.mk (hi); clear HB; clear HI125; have HB := n0_; have HI125 := n1_; clear n0_ n1_; (try clear hb); (try clear hb2); (try clear hk); (try clear hi)) | (go_at_call 61; (with_reducible refine (crc_Sum.calls k (a0.extract 0 2) t135 _ A19.out ⟨by first | exact HL.out | ((repeat (first | exact HL.out | apply Go.Proofs.YtnhjhaphfdlkfaaDoor.Crc.laid_drewN | apply Go.Proofs.YtnhjhaphfdlkfaaDoor.Crc.laid_drew)); done) | exact Go.Proofs.YtnhjhaphfdlkfaaDoor.Crc.laid_below HL.out (by repeat (first | (with_reducible first | exact HB.out | apply below_alloc | apply pw_below_drewN | apply below_drew1) | exact HB.out))⟩).mono ?_); rintro e w' ⟨rfl, ⟨nd, rfl⟩⟩; (try first | exact ⟨rfl, _, World.drewN_drewN _ _ _⟩ | exact ⟨rfl, _, Eq.trans (World.drewN_drewN _ _ _) (congrArg (World.drewN _) (Nat.add_assoc _ _ _))⟩)) | (go_at_call 60; (with_reducible refine (crc_Update.calls k t135 (t132.extract 0 ((ji20) : Int).toNat) t136 _ A23.out ⟨by first | exact HL.out | ((repeat (first | exact HL.out | apply Go.Proofs.YtnhjhaphfdlkfaaDoor.Crc.laid_drewN | apply Go.Proofs.YtnhjhaphfdlkfaaDoor.Crc.laid_drew)); done) | exact Go.Proofs.YtnhjhaphfdlkfaaDoor.Crc.laid_below HL.out (by repeat (first | (with_reducible first | exact HB.out | apply below_alloc | apply pw_below_drewN | apply below_drew1) | exact HB.out))⟩).mono ?_); rintro e w' ⟨rfl, ⟨nd, rfl⟩⟩; (try first | exact ⟨rfl, _, World.drewN_drewN _ _ _⟩ | exact ⟨rfl, _, Eq.trans (World.drewN_drewN _ _ _) (congrArg (World.drewN _) (Nat.add_assoc _ _ _))⟩))); try go_wp2_with (first | (go_at_call 35; (with_reducible refine (codec_New.calls a0 t123 t124 w _ ?side1 A3.out).mono ?_); (case side1 => repeat (first | (with_reducible first | exact HB.out | apply below_alloc | apply pw_below_drewN | apply below_drew1) | exact HB.out)); rintro e w27 ⟨g125, rfl, hi, hb, hb2⟩; have n0_ := Aside0.mk (hb); have n1_ := Aside0.mk (hi); clear HB; have HB := n0_; have HI125 := n1_; clear n0_ n1_; (try clear hb); (try clear hb2); (try clear hk); (try clear hi)) | (go_at_call 65; (with_reducible refine (codec_Reader_U16.calls k g125 t123 t124 t126 t127 t128 w _ ?side1 ?side2 A4.out).mono ?_); (case side1 => repeat (first | (with_reducible first | exact HI125.out | apply IsS130.alloc | apply IsS130.drewN | apply IsS130.drew | apply IsS130.set_0 | apply IsS130.set_1) | exact HI125.out)); (case side2 => repeat (first | (with_reducible first | exact HB.out | apply below_alloc | apply pw_below_drewN | apply below_drew1 | refine below_set ?_ (IsS130.ge HI125.out)) | exact HB.out)); rintro e w28 ⟨rfl, hi, hb, hk⟩; have n0_ := Aside0.mk (hb); have n1_ := Aside0.mk (hi); clear HB; clear HI125; have HB := n0_; have HI125 := n1_; clear n0_ n1_; (try clear hb); (try clear hb2); (try clear hk); (try clear hi)) | (go_at_call 66; (with_reducible refine (codec_Reader_U32.calls k g125 t127 t128 t129 t130 t131 w _ ?side1 ?side2 A5.out).mono ?_); (case side1 => repeat (first | (with_reducible first | exact HI125.out | apply IsS130.alloc | apply IsS130.drewN | apply IsS130.drew | apply IsS130.set_0 | apply IsS130.set_1) | exact HI125.out)); (case side2 => repeat (first | (with_reducible first | exact HB.out | apply below_alloc | apply pw_below_drewN | apply below_drew1 | refine below_set ?_ (IsS130.ge HI125.out)) | exact HB.out)); rintro e w29 ⟨rfl, hi, hb, hk⟩; have n0_ := Aside0.mk (hb); have n1_ := Aside0.mk (hi); clear HB; clear HI125; have HB := n0_; have HI125 := n1_; clear n0_ n1_; (try clear hb); (try clear hb2); (try clear hk); (try clear hi)) | (go_at_call 39; (with_reducible refine (codec_Reader_Rest.calls g125 t130 t131 t132 t133 t134 w _ ?side1 ?side2 A6.out).mono ?_); (case side1 => repeat (first | (with_reducible first | exact HI125.out | apply IsS130.alloc | apply IsS130.drewN | apply IsS130.drew | apply IsS130.set_0 | apply IsS130.set_1) | exact HI125.out)); (case side2 => repeat (first | (with_reducible first | exact HB.out | apply below_alloc | apply pw_below_drewN | apply below_drew1 | refine below_set ?_ (IsS130.ge HI125.out)) | exact HB.out)); rintro e w30 ⟨rfl, hi, hb, hk⟩; have n0_ := Aside0.mk (hb); have n1_ := Aside0.mk (hi); clear HB; clear HI125; have HB := n0_; have HI125 := n1_; clear n0_ n1_; (try clear hb); (try clear hb2); (try clear hk); (try clear hi)) | (go_at_call 61; (with_reducible refine (crc_Sum.calls k (a0.extract 0 2) t135 _ A19.out ⟨by first | exact HL.out | ((repeat (first | exact HL.out | apply Go.Proofs.YtnhjhaphfdlkfaaDoor.Crc.laid_drewN | apply Go.Proofs.YtnhjhaphfdlkfaaDoor.Crc.laid_drew)); done) | exact Go.Proofs.YtnhjhaphfdlkfaaDoor.Crc.laid_below HL.out (by repeat (first | (with_reducible first | exact HB.out | apply below_alloc | apply pw_below_drewN | apply below_drew1) | exact HB.out))⟩).mono ?_); rintro e w' ⟨rfl, ⟨nd, rfl⟩⟩; (try first | exact ⟨rfl, _, World.drewN_drewN _ _ _⟩ | exact ⟨rfl, _, Eq.trans (World.drewN_drewN _ _ _) (congrArg (World.drewN _) (Nat.add_assoc _ _ _))⟩)) | (go_at_call 60; (with_reducible refine (crc_Update.calls k t135 (t132.extract 0 ((ji20) : Int).toNat) t136 _ A23.out ⟨by first | exact HL.out | ((repeat (first | exact HL.out | apply Go.Proofs.YtnhjhaphfdlkfaaDoor.Crc.laid_drewN | apply Go.Proofs.YtnhjhaphfdlkfaaDoor.Crc.laid_drew)); done) | exact Go.Proofs.YtnhjhaphfdlkfaaDoor.Crc.laid_below HL.out (by repeat (first | (with_reducible first | exact HB.out | apply below_alloc | apply pw_below_drewN | apply below_drew1) | exact HB.out))⟩).mono ?_); rintro e w' ⟨rfl, ⟨nd, rfl⟩⟩; (try first | exact ⟨rfl, _, World.drewN_drewN _ _ _⟩ | exact ⟨rfl, _, Eq.trans (World.drewN_drewN _ _ _) (congrArg (World.drewN _) (Nat.add_assoc _ _ _))⟩))))
                  go_ret3
                  exact ⟨by first | rfl | (simp [errW_none, errW_some] <;> rfl) | (simp only [← hji20]; first | rfl | (simp [errW_none, errW_some] <;> rfl)) | (simp [*, errW_none, errW_some] <;> rfl), by repeat (first | (with_reducible first | exact HB.out | apply below_alloc | apply pw_below_drewN | apply below_drew1 | refine below_set ?_ (IsS130.ge HI125.out)) | exact HB.out)⟩
                · rw [if_neg c24] at H
                  have c24b0 : (t136 == t129) = false := beq_eq_false_iff_ne.mpr c24
                  have c24b1 : (t136 != t129) = true := bne_iff_ne.mpr c24
                  simp only [Option.some.injEq, Prod.mk.injEq] at H
                  obtain ⟨rfl, rfl, rfl⟩ := H
                  go_enter Tryd.func34, Tryd.ntmps34
                  go_wp2_with (first | (go_at_call 35; (with_reducible refine (codec_New.calls a0 t123 t124 w _ ?side1 A3.out).mono ?_); (case side1 => repeat (first | (with_reducible first | exact HB.out | apply below_alloc | apply pw_below_drewN | apply below_drew1) | exact HB.out)); rintro e w31 ⟨g125, rfl, hi, hb, hb2⟩; have n0_ := Aside0.mk (hb); have n1_ := Aside0.mk (hi); clear HB; have HB := n0_; have HI125 := n1_; clear n0_ n1_; (try clear hb); (try clear hb2); (try clear hk); (try clear hi)) | (go_at_call 65; (with_reducible refine (codec_Reader_U16.calls k g125 t123 t124 t126 t127 t128 w _ ?side1 ?side2 A4.out).mono ?_); (case side1 => repeat (first | (with_reducible first | exact HI125.out | apply IsS130.alloc | apply IsS130.drewN | apply IsS130.drew | apply IsS130.set_0 | apply IsS130.set_1) | exact HI125.out)); (case side2 => repeat (first | (with_reducible first | exact HB.out | apply below_alloc | apply pw_below_drewN | apply below_drew1 | refine below_set ?_ (IsS130.ge HI125.out)) | exact HB.out)); rintro e w32 ⟨rfl, hi, hb, hk⟩; have n0_ := Aside0.mk (hb); have n1_ := Aside0.mk (hi); clear HB; clear HI125; have HB := n0_; have HI125 := n1_; clear n0_ n1_; (try clear hb); (try clear hb2); (try clear hk); (try clear hi)) | (go_at_call 66; (with_reducible refine (codec_Reader_U32.calls k g125 t127 t128 t129 t130 t131 w _ ?side1 ?side2 A5.out).mono ?_); (case side1 => repeat (first | (with_reducible first | exact HI125.out | apply IsS130.alloc | apply IsS130.drewN | apply IsS130.drew | apply IsS130.set_0 | apply IsS130.set_1) | exact HI125.out)); (case side2 => repeat (first | (with_reducible first | exact HB.out | apply below_alloc | apply pw_below_drewN | apply below_drew1 | refine below_set ?_ (IsS130.ge HI125.out)) | exact HB.out)); rintro e w33 ⟨rfl, hi, hb, hk⟩; have n0_ := Aside0.mk (hb); have n1_ := Aside0.mk (hi); clear HB; clear HI125; have HB := n0_; have HI125 := n1_; clear n0_ n1_; (try clear hb); (try clear hb2); (try clear hk); (try clear hi)) | (go_at_call 39; (with_reducible refine (codec_Reader_Rest.calls g125 t130 t131 t132 t133 t134 w _ ?side1 ?side2 A6.out).mono ?_); (case side1 => repeat (first | (with_reducible first | exact HI125.out | apply IsS130.alloc | apply IsS130.drewN | apply IsS130.drew | apply IsS130.set_0 | apply IsS130.set_1) | exact HI125.out)); (case side2 => repeat (first | (with_reducible first | exact HB.out | apply below_alloc | apply pw_below_drewN | apply below_drew1 | refine below_set ?_ (IsS130.ge HI125.out)) | exact HB.out)); rintro e w34 ⟨rfl, hi, hb, hk⟩; have n0_ := Aside0.mk (hb); have n1_ := Aside0.mk (hi); clear HB; clear HI125; have HB := n0_; have HI125 := n1_; clear n0_ n1_; (try clear hb); (try clear hb2); (try clear hk); (try clear hi)) | (go_at_call 61; (with_reducible refine (crc_Sum.calls k (a0.extract 0 2) t135 _ A19.out ⟨by first | exact HL.out | ((repeat (first | exact HL.out | apply Go.Proofs.YtnhjhaphfdlkfaaDoor.Crc.laid_drewN | apply Go.Proofs.YtnhjhaphfdlkfaaDoor.Crc.laid_drew)); done) | exact Go.Proofs.YtnhjhaphfdlkfaaDoor.Crc.laid_below HL.out (by repeat (first | (with_reducible first | exact HB.out | apply below_alloc | apply pw_below_drewN | apply below_drew1) | exact HB.out))⟩).mono ?_); rintro e w' ⟨rfl, ⟨nd, rfl⟩⟩; (try first | exact ⟨rfl, _, World.drewN_drewN _ _ _⟩ | exact ⟨rfl, _, Eq.trans (World.drewN_drewN _ _ _) (congrArg (World.drewN _) (Nat.add_assoc _ _ _))⟩)) | (go_at_call 60; (with_reducible refine (crc_Update.calls k t135 (t132.extract 0 ((ji20) : Int).toNat) t136 _ A23.out ⟨by first | exact HL.out | ((repeat (first | exact HL.out | apply Go.Proofs.YtnhjhaphfdlkfaaDoor.Crc.laid_drewN | apply Go.Proofs.YtnhjhaphfdlkfaaDoor.Crc.laid_drew)); done) | exact Go.Proofs.YtnhjhaphfdlkfaaDoor.Crc.laid_below HL.out (by repeat (first | (with_reducible first | exact HB.out | apply below_alloc | apply pw_below_drewN | apply below_drew1) | exact HB.out))⟩).mono ?_); rintro e w' ⟨rfl, ⟨nd, rfl⟩⟩; (try first | exact ⟨rfl, _, World.drewN_drewN _ _ _⟩ | exact ⟨rfl, _, Eq.trans (World.drewN_drewN _ _ _) (congrArg (World.drewN _) (Nat.add_assoc _ _ _))⟩)))
                  repeat (go_quiet (first | (go_at_call 35; (with_reducible refine (codec_New.calls a0 t123 t124 w _ ?side1 A3.out).mono ?_); (case side1 => repeat (first | (with_reducible first | exact HB.out | apply below_alloc | apply pw_below_drewN | apply below_drew1) | exact HB.out)); rintro e w31 ⟨g125, rfl, hi, hb, hb2⟩; have n0_ := Aside0.mk (hb); have n1_ := Aside0.mk (hi); clear HB; have HB := n0_; have HI125 := n1_; clear n0_ n1_; (try clear hb); (try clear hb2); (try clear hk); (try clear hi)) | (go_at_call 65; (with_reducible refine (codec_Reader_U16.calls k g125 t123 t124 t126 t127 t128 w _ ?side1 ?side2 A4.out).mono ?_); (case side1 => repeat (first | (with_reducible first | exact HI125.out | apply IsS130.alloc | apply IsS130.drewN | apply IsS130.drew | apply IsS130.set_0 | apply IsS130.set_1) | exact HI125.out)); (case side2 => repeat (first | (with_reducible first | exact HB.out | apply below_alloc | apply pw_below_drewN | apply below_drew1 | refine below_set ?_ (IsS130.ge HI125.out)) | exact HB.out)); rintro e w32 ⟨rfl, hi, hb, hk⟩; have n0_ := Aside0.mk (hb); have n1_ := Aside0.mk (hi); clear HB; clear HI125; have HB := n0_; have HI125 := n1_; clear n0_ n1_; (try clear hb); (try clear hb2); (try clear hk); (try clear hi)) | (go_at_call 66; (with_reducible refine (codec_Reader_U32.calls k g125 t127 t128 t129 t130 t131 w _ ?side1 ?side2 A5.out).mono ?_); (case side1 => repeat (first | (with_reducible first | exact HI125.out | apply IsS130.alloc | apply IsS130.drewN | apply IsS130.drew | apply IsS130.set_0 | apply IsS130.set_1) | exact HI125.out)); (case side2 => repeat (first | (with_reducible first | exact HB.out | apply below_alloc | apply pw_below_drewN | apply below_drew1 | refine below_set ?_ (IsS130.ge HI125.out)) | exact HB.out)); rintro e w33 ⟨rfl, hi, hb, hk⟩; have n0_ := Aside0.mk (hb); have n1_ := Aside0.mk (hi); clear HB; clear HI125; have HB := n0_; have HI125 := n1_; clear n0_ n1_; (try clear hb); (try clear hb2); (try clear hk); (try clear hi)) | (go_at_call 39; (with_reducible refine (codec_Reader_Rest.calls g125 t130 t131 t132 t133 t134 w _ ?side1 ?side2 A6.out).mono ?_); (case side1 => repeat (first | (with_reducible first | exact HI125.out | apply IsS130.alloc | apply IsS130.drewN | apply IsS130.drew | apply IsS130.set_0 | apply IsS130.set_1) | exact HI125.out)); (case side2 => repeat (first | (with_reducible first | exact HB.out | apply below_alloc | apply pw_below_drewN | apply below_drew1 | refine below_set ?_ (IsS130.ge HI125.out)) | exact HB.out)); rintro e w34 ⟨rfl, hi, hb, hk⟩; have n0_ := Aside0.mk (hb); have n1_ := Aside0.mk (hi); clear HB; clear HI125; have HB := n0_; have HI125 := n1_; clear n0_ n1_; (try clear hb); (try clear hb2); (try clear hk); (try clear hi)) | (go_at_call 61; (with_reducible refine (crc_Sum.calls k (a0.extract 0 2) t135 _ A19.out ⟨by first | exact HL.out | ((repeat (first | exact HL.out | apply Go.Proofs.YtnhjhaphfdlkfaaDoor.Crc.laid_drewN | apply Go.Proofs.YtnhjhaphfdlkfaaDoor.Crc.laid_drew)); done) | exact Go.Proofs.YtnhjhaphfdlkfaaDoor.Crc.laid_below HL.out (by repeat (first | (with_reducible first | exact HB.out | apply below_alloc | apply pw_below_drewN | apply below_drew1) | exact HB.out))⟩).mono ?_); rintro e w' ⟨rfl, ⟨nd, rfl⟩⟩; (try first | exact ⟨rfl, _, World.drewN_drewN _ _ _⟩ | exact ⟨rfl, _, Eq.trans (World.drewN_drewN _ _ _) (congrArg (World.drewN _) (Nat.add_assoc _ _ _))⟩)) | (go_at_call 60; (with_reducible refine (crc_Update.calls k t135 (t132.extract 0 ((ji20) : Int).toNat) t136 _ A23.out ⟨by first | exact HL.out | ((repeat (first | exact HL.out | apply Go.Proofs.YtnhjhaphfdlkfaaDoor.Crc.laid_drewN | apply Go.Proofs.YtnhjhaphfdlkfaaDoor.Crc.laid_drew)); done) | exact Go.Proofs.YtnhjhaphfdlkfaaDoor.Crc.laid_below HL.out (by repeat (first | (with_reducible first | exact HB.out | apply below_alloc | apply pw_below_drewN | apply below_drew1) | exact HB.out))⟩).mono ?_); rintro e w' ⟨rfl, ⟨nd, rfl⟩⟩; (try first | exact ⟨rfl, _, World.drewN_drewN _ _ _⟩ | exact ⟨rfl, _, Eq.trans (World.drewN_drewN _ _ _) (congrArg (World.drewN _) (Nat.add_assoc _ _ _))⟩))); try go_wp2_with (first | (go_at_call 35; (with_reducible refine (codec_New.calls a0 t123 t124 w _ ?side1 A3.out).mono ?_); (case side1 => repeat (first | (with_reducible first | exact HB.out | apply below_alloc | apply pw_below_drewN | apply below_drew1) | exact HB.out)); rintro e w31 ⟨g125, rfl, hi, hb, hb2⟩; have n0_ := Aside0.mk (hb); have n1_ := Aside0.mk (hi); clear HB; have HB := n0_; have HI125 := n1_; clear n0_ n1_; (try clear hb); (try clear hb2); (try clear hk); (try clear hi)) | (go_at_call 65; (with_reducible refine (codec_Reader_U16.calls k g125 t123 t124 t126 t127 t128 w _ ?side1 ?side2 A4.out).mono ?_); (case side1 => repeat (first | (with_reducible first | exact HI125.out | apply IsS130.alloc | apply IsS130.drewN | apply IsS130.drew | apply IsS130.set_0 | apply IsS130.set_1) | exact HI125.out)); (case side2 => repeat (first | (with_reducible first | exact HB.out | apply below_alloc | apply pw_below_drewN | apply below_drew1 | refine below_set ?_ (IsS130.ge HI125.out)) | exact HB.out)); rintro e w32 ⟨rfl, hi, hb, hk⟩; have n0_ := Aside0.mk (hb); have n1_ := Aside0.mk (hi); clear HB; clear HI125; have HB := n0_; have HI125 := n1_; clear n0_ n1_; (try clear hb); (try clear hb2); (try clear hk); (try clear hi)) | (go_at_call 66; (with_reducible refine (codec_Reader_U32.calls k g125 t127 t128 t129 t130 t131 w _ ?side1 ?side2 A5.out).mono ?_); (case side1 => repeat (first | (with_reducible first | exact HI125.out | apply IsS130.alloc | apply IsS130.drewN | apply IsS130.drew | apply IsS130.set_0 | apply IsS130.set_1) | exact HI125.out)); (case side2 => repeat (first | (with_reducible first | exact HB.out | apply below_alloc | apply pw_below_drewN | apply below_drew1 | refine below_set ?_ (IsS130.ge HI125.out)) | exact HB.out)); rintro e w33 ⟨rfl, hi, hb, hk⟩; have n0_ := Aside0.mk (hb); have n1_ := Aside0.mk (hi); clear HB; clear HI125; have HB := n0_; have HI125 := n1_; clear n0_ n1_; (try clear hb); (try clear hb2); (try clear hk); (try clear hi)) | (go_at_call 39; (with_reducible refine (codec_Reader_Rest.calls g125 t130 t131 t132 t133 t134 w _ ?side1 ?side2 A6.out).mono ?_); (case side1 => repeat (first | (with_reducible first | exact HI125.out | apply IsS130.alloc | apply IsS130.drewN | apply IsS130.drew | apply IsS130.set_0 | apply IsS130.set_1) | exact HI125.out)); (case side2 => repeat (first | (with_reducible first | exact HB.out | apply below_alloc | apply pw_below_drewN | apply below_drew1 | refine below_set ?_ (IsS130.ge HI125.out)) | exact HB.out)); rintro e w34 ⟨rfl, hi, hb, hk⟩; have n0_ := Aside0.mk (hb); have n1_ := Aside0.mk (hi); clear HB; clear HI125; have HB := n0_; have HI125 := n1_; clear n0_ n1_; (try clear hb); (try clear hb2); (try clear hk); (try clear hi)) | (go_at_call 61; (with_reducible refine (crc_Sum.calls k (a0.extract 0 2) t135 _ A19.out ⟨by first | exact HL.out | ((repeat (first | exact HL.out | apply Go.Proofs.YtnhjhaphfdlkfaaDoor.Crc.laid_drewN | apply Go.Proofs.YtnhjhaphfdlkfaaDoor.Crc.laid_drew)); done) | exact Go.Proofs.YtnhjhaphfdlkfaaDoor.Crc.laid_below HL.out (by repeat (first | (with_reducible first | exact HB.out | apply below_alloc | apply pw_below_drewN | apply below_drew1) | exact HB.out))⟩).mono ?_); rintro e w' ⟨rfl, ⟨nd, rfl⟩⟩; (try first | exact ⟨rfl, _, World.drewN_drewN _ _ _⟩ | exact ⟨rfl, _, Eq.trans (World.drewN_drewN _ _ _) (congrArg (World.drewN _) (Nat.add_assoc _ _ _))⟩)) | (go_at_call 60; (with_reducible refine (crc_Update.calls k t135 (t132.extract 0 ((ji20) : Int).toNat) t136 _ A23.out ⟨by first | exact HL.out | ((repeat (first | exact HL.out | apply Go.Proofs.YtnhjhaphfdlkfaaDoor.Crc.laid_drewN | apply Go.Proofs.YtnhjhaphfdlkfaaDoor.Crc.laid_drew)); done) | exact Go.Proofs.YtnhjhaphfdlkfaaDoor.Crc.laid_below HL.out (by repeat (first | (with_reducible first | exact HB.out | apply below_alloc | apply pw_below_drewN | apply below_drew1) | exact HB.out))⟩).mono ?_); rintro e w' ⟨rfl, ⟨nd, rfl⟩⟩; (try first | exact ⟨rfl, _, World.drewN_drewN _ _ _⟩ | exact ⟨rfl, _, Eq.trans (World.drewN_drewN _ _ _) (congrArg (World.drewN _) (Nat.add_assoc _ _ _))⟩))))
                  go_ret3
                  exact ⟨by first | rfl | (simp [errW_none, errW_some] <;> rfl) | (simp only [← hji20]; first | rfl | (simp [errW_none, errW_some] <;> rfl)) | (simp [*, errW_none, errW_some] <;> rfl), by repeat (first | (with_reducible first | exact HB.out | apply below_alloc | apply pw_below_drewN | apply below_drew1 | refine below_set ?_ (IsS130.ge HI125.out)) | exact HB.out)⟩
              · rw [if_neg c22] at H
                exact absurd H (by simp)
            · rw [if_neg c21] at H
              exact absurd H (by simp)
          · rw [if_neg c18] at H
            exact absurd H (by simp)
        · rw [if_neg c17] at H
          exact absurd H (by simp)
/-! ### hindcastref03_Update: function 83 -/
/-! ### codec_get_uint64: function 67 -/
def codec_get_uint64.l0 : Nat → Int → ByteArray → Int → Int → ByteArray → Int → Option (Int × ByteArray × Int)
  | 0, _, _, _, _, _, _ => none
  | k + 1, x4, x5, x20, x21, x1000, x1001 => if x21 < x20 then (if 0 ≤ x21 then (if x21 < (x5.size : Int) then (if 0 ≤ (wrap64 (8 * x21)) then (codec_get_uint64.l0 k (Go.bits .or .u64 x4 (shl .u64 (IntKind.u64.wrap (bt x5 x21)) (wrap64 (8 * x21)))) x5 x20 (wrap64 (x21 + 1)) x1000 x1001) else (none)) else (none)) else (none)) else (some (x4, x1000, x1001))
def codec_get_uint64.f (k : Nat) (s0_0 : ByteArray) (s0_1 : Int) (a1 : Int) : Option (Int × ByteArray × Int) := (codec_left_take.f s0_0 s0_1 (IntKind.u64.wrap (a1))).bind fun bt147 => (codec_get_uint64.l0 k 0 bt147.1 (bt147.1.size : Int) 0 bt147.2.2.1 bt147.2.2.2)
set_option maxHeartbeats 8000000 in
set_option maxRecDepth 100000 in
theorem codec_get_uint64.calls (k : Nat) (g : Nat) (s0_0 : ByteArray) (s0_1 : Int) (a1 : Int) (r1 : Int) (r2 : ByteArray) (r3 : Int) (w0 w : World) (hI : IsS130 w0 w g s0_0 s0_1) (hB : Below w0.heap.size w0 w) (h : codec_get_uint64.f k s0_0 s0_1 a1 = some (r1, r2, r3)) :
    Calls Tryd.prog 67 #[.pointer (some ⟨g, 0, none⟩), .int .i64 a1] w fun e w' => e = .returned (.int .u64 r1) ∧ IsS130 w0 w' g r2 r3 ∧ Below w0.heap.size w0 w' ∧ KeepBut w w' g none := by
  have HI0 := Aside0.mk hI
  have HK := Aside0.mk (KeepBut.refl w g none)
  have HL := Aside0.mk hB.size
  clear hI
  have HW0 := Aside0.mk hB.size
  have HB := Aside0.mk hB
  clear hB
  have H : ((codec_left_take.f s0_0 s0_1 (IntKind.u64.wrap (a1))).bind fun bt147 => (codec_get_uint64.l0 k 0 bt147.1 (bt147.1.size : Int) 0 bt147.2.2.1 bt147.2.2.2)) = some (r1, r2, r3) := h
  clear h
  replace H := Option.bind_eq_some_iff.mp H
  obtain ⟨⟨t147, t148, t149, t150⟩, A30, H⟩ := H
  replace H : (codec_get_uint64.l0 k 0 t147 (t147.size : Int) 0 t149 t150) = some (r1, r2, r3) := H
  have A3 := Aside0.mk A30
  clear A30
  have H' := Aside0.mk H
  clear H
  go_enter Tryd.func67, Tryd.ntmps67
  go_wp2_with (first | ((with_reducible refine gate_callee (f := 86) rfl ?_); refine goesL_ (some 16) rfl rfl Tryd.func86 (by kernel_rfl) rfl #[.pointer (some ⟨g, 0, none⟩), .int .u64 (IntKind.u64.wrap (a1))] rfl (by (try simp only [List.map_toArray, List.map_cons, List.map_nil]); first | done | rfl | (simp only [List.length_drop, List.length_take]; rfl)) ?_; (with_reducible refine (codec_left_take.calls g s0_0 s0_1 (IntKind.u64.wrap (a1)) t147 t148 t149 t150 w0 _ ?side1 ?side2 A3.out).mono ?_); (case side1 => repeat (first | (with_reducible first | exact HI0.out | apply IsS130.alloc | apply IsS130.drewN | apply IsS130.drew | apply IsS130.set_0 | apply IsS130.set_1) | exact HI0.out)); (case side2 => repeat (first | (with_reducible first | exact HB.out | apply below_alloc | apply pw_below_drewN | apply below_drew1 | refine below_set ?_ (IsS130.ge HI0.out)) | exact HB.out)); rintro e w4 ⟨rfl, hi, hb, hk⟩; refine ⟨_, rfl, ?_⟩; have n0_ := Aside0.mk (KeepBut.trans (by repeat (first | (with_reducible first | exact HK.out | apply KeepBut.set_ | apply keep_drewN | apply keep_drew | apply keep_alloc) | exact HK.out)) hk (.inl rfl)); have n1_ := Aside0.mk (hb); have n2_ := Aside0.mk (hi); clear HK; clear HB; clear HI0; have HK := n0_; have HB := n1_; have HI0 := n2_; clear n0_ n1_ n2_; (try clear hb); (try clear hb2); (try clear hk); (try clear hi)))
  go_loopg [4, 21] k (fun kq v4 v21 w' => ∃ (x4_1 : Int) (x21_1 : Int), v4 = .int .u64 x4_1 ∧ v21 = .int .i64 x21_1 ∧ Aside0 (codec_get_uint64.l0 kq x4_1 t147 (t147.size : Int) x21_1 t149 t150 = some (r1, r2, r3)) ∧ Aside0 (kq ≤ k) ∧ Aside0 (IsS130 w0 w' g t149 t150) ∧ Aside0 (KeepBut w w' g none) ∧ Aside0 (Below w0.heap.size w0 w'))
  case atStart => exact ⟨(0), (0), (by first | rfl | (simp; done) | (simp [*]; done)), (by first | rfl | (simp; done) | (simp [*]; done)), H', ⟨Nat.le_refl _⟩, ⟨by repeat (first | (with_reducible first | exact HI0.out | apply IsS130.alloc | apply IsS130.drewN | apply IsS130.drew | apply IsS130.set_0 | apply IsS130.set_1) | exact HI0.out)⟩, ⟨by repeat (first | (with_reducible first | exact HK.out | apply KeepBut.set_ | apply keep_drewN | apply keep_drew | apply keep_alloc) | exact HK.out)⟩, ⟨by repeat (first | (with_reducible first | exact HB.out | apply below_alloc | apply pw_below_drewN | apply below_drew1 | refine below_set ?_ (IsS130.ge HI0.out)) | exact HB.out)⟩⟩
  case round =>
    clear H'
    try clear p2
    obtain ⟨x4_1, x21_1, rfl, rfl, HA, HK1, HI0, HK, HB⟩ := hrel
    cases gk with
    | zero => exact absurd HA.out (by simp [codec_get_uint64.l0])
    | succ k1 =>
      have H := HA.out
      clear HA
      simp only [codec_get_uint64.l0] at H
      by_cases c5 : x21_1 < (t147.size : Int)
      · rw [if_pos c5] at H
        have c5b0 : decide (x21_1 < (t147.size : Int)) = true := decide_eq_true c5
        clear c5
        by_cases c6 : 0 ≤ x21_1
        · rw [if_pos c6] at H
          have c6b0 : decide (0 ≤ x21_1) = true := decide_eq_true c6
          clear c6
          by_cases c7 : x21_1 < (t147.size : Int)
          · rw [if_pos c7] at H
            have c7b0 : decide (x21_1 < (t147.size : Int)) = true := decide_eq_true c7
            clear c7
            obtain ⟨ji9, hji9⟩ : ∃ j_ : Int, (wrap64 (8 * x21_1)) = j_ := ⟨_, rfl⟩
            replace H : (if 0 ≤ (ji9) then (codec_get_uint64.l0 k1 (Go.bits .or .u64 x4_1 (shl .u64 (IntKind.u64.wrap (bt t147 x21_1)) (ji9))) t147 (t147.size : Int) (wrap64 (x21_1 + 1)) t149 t150) else (none)) = some (r1, r2, r3) := by first | (rw [hji9] at H; exact H) | (simp only [hji9] at H ⊢; exact H)
            have hji9w : (IntKind.i64.wrap (8 * x21_1)) = ji9 := (i64_w _).trans hji9
            by_cases c10 : 0 ≤ (ji9)
            · rw [if_pos c10] at H
              have c10b0 := eq_true c10
              have c10b1 : decide (0 ≤ (ji9)) = true := decide_eq_true c10
              clear c10
              obtain ⟨ji11, hji11⟩ : ∃ j_ : Int, (shl .u64 (IntKind.u64.wrap (bt t147 x21_1)) (ji9)) = j_ := ⟨_, rfl⟩
              replace H : (codec_get_uint64.l0 k1 (Go.bits .or .u64 x4_1 (ji11)) t147 (t147.size : Int) (wrap64 (x21_1 + 1)) t149 t150) = some (r1, r2, r3) := by first | (rw [hji11] at H; exact H) | (simp only [hji11] at H ⊢; exact H)
              have hji11_ : (IntKind.u64.wrap ((IntKind.u64.wrap (bt t147 x21_1)) * 2 ^ min (ji9).toNat 64)) = ji11 := hji11
              have hji11z : (ji9) ≤ 64 → (IntKind.u64.wrap ((IntKind.u64.wrap (bt t147 x21_1)) * 2 ^ (ji9).toNat)) = ji11 := shl_small hji11
              have H' := Aside0.mk H
              clear H
              have p8 : 0 ≤ (x21_1 : Int) := of_decide_eq_true (by first | (with_reducible assumption) | assumption)
              have q8 : x21_1 < (t147.size : Int) := of_decide_eq_true (by first | (with_reducible assumption) | assumption)
              have hx8 := bt_at t147 x21_1
              replace p8 := eq_true p8
              replace q8 := eq_true q8
              go_wp2
              go_roundg k1
              case measure => have := HK1.out; omega
              case rel => exact ⟨(Go.bits .or .u64 x4_1 (ji11)), (wrap64 (x21_1 + 1)), (by first | rfl | (simp; done) | (simp only [← hji11] <;> (first | rfl | simp)) | (simp [*]; done)), (by first | rfl | (simp; done) | (simp [*]; done)), H', ⟨by have := HK1.out; omega⟩, ⟨by repeat (first | (with_reducible first | exact HI0.out | apply IsS130.alloc | apply IsS130.drewN | apply IsS130.drew | apply IsS130.set_0 | apply IsS130.set_1) | exact HI0.out)⟩, ⟨by repeat (first | (with_reducible first | exact HK.out | apply KeepBut.set_ | apply keep_drewN | apply keep_drew | apply keep_alloc) | exact HK.out)⟩, ⟨by repeat (first | (with_reducible first | exact HB.out | apply below_alloc | apply pw_below_drewN | apply below_drew1 | refine below_set ?_ (IsS130.ge HI0.out)) | exact HB.out)⟩⟩
            · rw [if_neg c10] at H
              exact absurd H (by simp)
          · rw [if_neg c7] at H
            exact absurd H (by simp)
        · rw [if_neg c6] at H
          exact absurd H (by simp)
      · rw [if_neg c5] at H
        have c5b0 : decide (x21_1 < (t147.size : Int)) = false := decide_eq_false c5
        clear c5
        simp only [Option.some.injEq, Prod.mk.injEq] at H
        obtain ⟨rfl, rfl, rfl⟩ := H
        go_wp2
        go_ret
        exact ⟨by first | rfl | (simp [errW_none, errW_some] <;> rfl) | (simp [*, errW_none, errW_some] <;> rfl), by repeat (first | (with_reducible first | exact HI0.out | apply IsS130.alloc | apply IsS130.drewN | apply IsS130.drew | apply IsS130.set_0 | apply IsS130.set_1) | exact HI0.out), by repeat (first | (with_reducible first | exact HB.out | apply below_alloc | apply pw_below_drewN | apply below_drew1 | refine below_set ?_ (IsS130.ge HI0.out)) | exact HB.out), by repeat (first | (with_reducible first | exact HK.out | apply KeepBut.set_ | apply keep_drewN | apply keep_drew | apply keep_alloc) | exact HK.out)⟩
/-! ### codec_Reader_U64: function 36 -/
def codec_Reader_U64.f (k : Nat) (s0_0 : ByteArray) (s0_1 : Int) : Option (Int × ByteArray × Int) := (codec_get_uint64.f k s0_0 s0_1 8).bind fun bt151 => (some (bt151.1, bt151.2.1, bt151.2.2))
set_option maxHeartbeats 8000000 in
set_option maxRecDepth 100000 in
theorem codec_Reader_U64.calls (k : Nat) (g : Nat) (s0_0 : ByteArray) (s0_1 : Int) (r1 : Int) (r2 : ByteArray) (r3 : Int) (w0 w : World) (hI : IsS130 w0 w g s0_0 s0_1) (hB : Below w0.heap.size w0 w) (h : codec_Reader_U64.f k s0_0 s0_1 = some (r1, r2, r3)) :
    Calls Tryd.prog 36 #[.pointer (some ⟨g, 0, none⟩)] w fun e w' => e = .returned (.int .u64 r1) ∧ IsS130 w0 w' g r2 r3 ∧ Below w0.heap.size w0 w' ∧ KeepBut w w' g none := by
  have HI0 := Aside0.mk hI
  have HK := Aside0.mk (KeepBut.refl w g none)
  have HL := Aside0.mk hB.size
  clear hI
  have HW0 := Aside0.mk hB.size
  have HB := Aside0.mk hB
  clear hB
  have H : ((codec_get_uint64.f k s0_0 s0_1 8).bind fun bt151 => (some (bt151.1, bt151.2.1, bt151.2.2))) = some (r1, r2, r3) := h
  clear h
  replace H := Option.bind_eq_some_iff.mp H
  obtain ⟨⟨t151, t152, t153⟩, A20, H⟩ := H
  replace H : (some (t151, t152, t153)) = some (r1, r2, r3) := H
  have A2 := Aside0.mk A20
  clear A20
  simp only [Option.some.injEq, Prod.mk.injEq] at H
  obtain ⟨rfl, rfl, rfl⟩ := H
  go_enter Tryd.func36, Tryd.ntmps36
  go_wp2_with (first | ((with_reducible refine gate_callee (f := 67) rfl ?_); refine goesL_ (some 4) rfl rfl Tryd.func67 (by kernel_rfl) rfl #[.pointer (some ⟨g, 0, none⟩), .int .i64 8] rfl (by (try simp only [List.map_toArray, List.map_cons, List.map_nil]); first | done | rfl | (simp only [List.length_drop, List.length_take]; rfl)) ?_; (with_reducible refine (codec_get_uint64.calls k g s0_0 s0_1 8 t151 t152 t153 w0 _ ?side1 ?side2 A2.out).mono ?_); (case side1 => repeat (first | (with_reducible first | exact HI0.out | apply IsS130.alloc | apply IsS130.drewN | apply IsS130.drew | apply IsS130.set_0 | apply IsS130.set_1) | exact HI0.out)); (case side2 => repeat (first | (with_reducible first | exact HB.out | apply below_alloc | apply pw_below_drewN | apply below_drew1 | refine below_set ?_ (IsS130.ge HI0.out)) | exact HB.out)); rintro e w3 ⟨rfl, hi, hb, hk⟩; refine ⟨_, rfl, ?_⟩; have n0_ := Aside0.mk (KeepBut.trans (by repeat (first | (with_reducible first | exact HK.out | apply KeepBut.set_ | apply keep_drewN | apply keep_drew | apply keep_alloc) | exact HK.out)) hk (.inl rfl)); have n1_ := Aside0.mk (hb); have n2_ := Aside0.mk (hi); clear HK; clear HB; clear HI0; have HK := n0_; have HB := n1_; have HI0 := n2_; clear n0_ n1_ n2_; (try clear hb); (try clear hb2); (try clear hk); (try clear hi)))
  go_ret
  exact ⟨by first | rfl | (simp [errW_none, errW_some] <;> rfl) | (simp [*, errW_none, errW_some] <;> rfl), by repeat (first | (with_reducible first | exact HI0.out | apply IsS130.alloc | apply IsS130.drewN | apply IsS130.drew | apply IsS130.set_0 | apply IsS130.set_1) | exact HI0.out), by repeat (first | (with_reducible first | exact HB.out | apply below_alloc | apply pw_below_drewN | apply below_drew1 | refine below_set ?_ (IsS130.ge HI0.out)) | exact HB.out), by repeat (first | (with_reducible first | exact HK.out | apply KeepBut.set_ | apply keep_drewN | apply keep_drew | apply keep_alloc) | exact HK.out)⟩
end Go.Proofs.YtnhjhaphfdlkfaaDoor.HF
-- out of the translation's print, by a program and by hand (wip/tools/hp.py)
namespace Go.Proofs.YtnhjhaphfdlkfaaDoor.HF
open Go.RowKit Go.Proofs.YtnhjhaphfdlkfaaDoorW.PrintWords Go.Proofs.YtnhjhaphfdlkfaaDoorW.PrintLast Go.Proofs.YtnhjhaphfdlkfaaDoorW.PrintMore
attribute [local go_sem] max2_int min2_int max_two min_two max_three min_three max_four min_four   -- for this text's walks alone
set_option linter.unusedVariables false
set_option linter.unusedSimpArgs false
/-! ### codec_get_uint8: function 68 -/
def codec_get_uint8.l0 : Nat → Int → ByteArray → Int → Int → ByteArray → Int → Option (Int × ByteArray × Int)
  | 0, _, _, _, _, _, _ => none
  | k + 1, x4, x5, x20, x21, x1000, x1001 => if x21 < x20 then (if 0 ≤ x21 then (if x21 < (x5.size : Int) then (if 0 ≤ (wrap64 (8 * x21)) then (codec_get_uint8.l0 k (Go.bits .or .u8 x4 ((shl .u64 (IntKind.u64.wrap (bt x5 x21)) (wrap64 (8 * x21))) % 256)) x5 x20 (wrap64 (x21 + 1)) x1000 x1001) else (none)) else (none)) else (none)) else (some (x4, x1000, x1001))
def codec_get_uint8.f (k : Nat) (s0_0 : ByteArray) (s0_1 : Int) (a1 : Int) : Option (Int × ByteArray × Int) := (codec_left_take.f s0_0 s0_1 (IntKind.u64.wrap (a1))).bind fun bt154 => (codec_get_uint8.l0 k 0 bt154.1 (bt154.1.size : Int) 0 bt154.2.2.1 bt154.2.2.2)
set_option maxHeartbeats 8000000 in
set_option maxRecDepth 100000 in
theorem codec_get_uint8.calls (k : Nat) (g : Nat) (s0_0 : ByteArray) (s0_1 : Int) (a1 : Int) (r1 : Int) (r2 : ByteArray) (r3 : Int) (w0 w : World) (hI : IsS130 w0 w g s0_0 s0_1) (hB : Below w0.heap.size w0 w) (h : codec_get_uint8.f k s0_0 s0_1 a1 = some (r1, r2, r3)) :
    Calls Tryd.prog 68 #[.pointer (some ⟨g, 0, none⟩), .int .i64 a1] w fun e w' => e = .returned (.int .u8 r1) ∧ IsS130 w0 w' g r2 r3 ∧ Below w0.heap.size w0 w' ∧ KeepBut w w' g none := by
  have HI0 := Aside0.mk hI
  have HK := Aside0.mk (KeepBut.refl w g none)
  have HL := Aside0.mk hB.size
  clear hI
  have HW0 := Aside0.mk hB.size
  have HB := Aside0.mk hB
  clear hB
  have H : ((codec_left_take.f s0_0 s0_1 (IntKind.u64.wrap (a1))).bind fun bt154 => (codec_get_uint8.l0 k 0 bt154.1 (bt154.1.size : Int) 0 bt154.2.2.1 bt154.2.2.2)) = some (r1, r2, r3) := h
  clear h
  replace H := Option.bind_eq_some_iff.mp H
  obtain ⟨⟨t154, t155, t156, t157⟩, A30, H⟩ := H
  replace H : (codec_get_uint8.l0 k 0 t154 (t154.size : Int) 0 t156 t157) = some (r1, r2, r3) := H
  have A3 := Aside0.mk A30
  clear A30
  have H' := Aside0.mk H
  clear H
  go_enter Tryd.func68, Tryd.ntmps68
  go_wp2_with (first | ((with_reducible refine gate_callee (f := 86) rfl ?_); refine goesL_ (some 16) rfl rfl Tryd.func86 (by kernel_rfl) rfl #[.pointer (some ⟨g, 0, none⟩), .int .u64 (IntKind.u64.wrap (a1))] rfl (by (try simp only [List.map_toArray, List.map_cons, List.map_nil]); first | done | rfl | (simp only [List.length_drop, List.length_take]; rfl)) ?_; (with_reducible refine (codec_left_take.calls g s0_0 s0_1 (IntKind.u64.wrap (a1)) t154 t155 t156 t157 w0 _ ?side1 ?side2 A3.out).mono ?_); (case side1 => repeat (first | (with_reducible first | exact HI0.out | apply IsS130.alloc | apply IsS130.drewN | apply IsS130.drew | apply IsS130.set_0 | apply IsS130.set_1) | exact HI0.out)); (case side2 => repeat (first | (with_reducible first | exact HB.out | apply below_alloc | apply pw_below_drewN | apply below_drew1 | refine below_set ?_ (IsS130.ge HI0.out)) | exact HB.out)); rintro e w4 ⟨rfl, hi, hb, hk⟩; refine ⟨_, rfl, ?_⟩; have n0_ := Aside0.mk (KeepBut.trans (by repeat (first | (with_reducible first | exact HK.out | apply KeepBut.set_ | apply keep_drewN | apply keep_drew | apply keep_alloc) | exact HK.out)) hk (.inl rfl)); have n1_ := Aside0.mk (hb); have n2_ := Aside0.mk (hi); clear HK; clear HB; clear HI0; have HK := n0_; have HB := n1_; have HI0 := n2_; clear n0_ n1_ n2_; (try clear hb); (try clear hb2); (try clear hk); (try clear hi)))
  go_loopg [4, 21] k (fun kq v4 v21 w' => ∃ (x4_1 : Int) (x21_1 : Int), v4 = .int .u8 x4_1 ∧ v21 = .int .i64 x21_1 ∧ Aside0 (codec_get_uint8.l0 kq x4_1 t154 (t154.size : Int) x21_1 t156 t157 = some (r1, r2, r3)) ∧ Aside0 (kq ≤ k) ∧ Aside0 (IsS130 w0 w' g t156 t157) ∧ Aside0 (KeepBut w w' g none) ∧ Aside0 (Below w0.heap.size w0 w'))
  case atStart => exact ⟨(0), (0), (by first | rfl | (simp; done) | (simp [*]; done)), (by first | rfl | (simp; done) | (simp [*]; done)), H', ⟨Nat.le_refl _⟩, ⟨by repeat (first | (with_reducible first | exact HI0.out | apply IsS130.alloc | apply IsS130.drewN | apply IsS130.drew | apply IsS130.set_0 | apply IsS130.set_1) | exact HI0.out)⟩, ⟨by repeat (first | (with_reducible first | exact HK.out | apply KeepBut.set_ | apply keep_drewN | apply keep_drew | apply keep_alloc) | exact HK.out)⟩, ⟨by repeat (first | (with_reducible first | exact HB.out | apply below_alloc | apply pw_below_drewN | apply below_drew1 | refine below_set ?_ (IsS130.ge HI0.out)) | exact HB.out)⟩⟩
  case round =>
    clear H'
    try clear p2
    obtain ⟨x4_1, x21_1, rfl, rfl, HA, HK1, HI0, HK, HB⟩ := hrel
    cases gk with
    | zero => exact absurd HA.out (by simp [codec_get_uint8.l0])
    | succ k1 =>
      have H := HA.out
      clear HA
      simp only [codec_get_uint8.l0] at H
      by_cases c5 : x21_1 < (t154.size : Int)
      · rw [if_pos c5] at H
        have c5b0 : decide (x21_1 < (t154.size : Int)) = true := decide_eq_true c5
        clear c5
        by_cases c6 : 0 ≤ x21_1
        · rw [if_pos c6] at H
          have c6b0 : decide (0 ≤ x21_1) = true := decide_eq_true c6
          clear c6
          by_cases c7 : x21_1 < (t154.size : Int)
          · rw [if_pos c7] at H
            have c7b0 : decide (x21_1 < (t154.size : Int)) = true := decide_eq_true c7
            clear c7
            obtain ⟨ji9, hji9⟩ : ∃ j_ : Int, (wrap64 (8 * x21_1)) = j_ := ⟨_, rfl⟩
            replace H : (if 0 ≤ (ji9) then (codec_get_uint8.l0 k1 (Go.bits .or .u8 x4_1 ((shl .u64 (IntKind.u64.wrap (bt t154 x21_1)) (ji9)) % 256)) t154 (t154.size : Int) (wrap64 (x21_1 + 1)) t156 t157) else (none)) = some (r1, r2, r3) := by first | (rw [hji9] at H; exact H) | (simp only [hji9] at H ⊢; exact H)
            have hji9w : (IntKind.i64.wrap (8 * x21_1)) = ji9 := (i64_w _).trans hji9
            by_cases c10 : 0 ≤ (ji9)
            · rw [if_pos c10] at H
              have c10b0 := eq_true c10
              have c10b1 : decide (0 ≤ (ji9)) = true := decide_eq_true c10
              clear c10
              obtain ⟨ji11, hji11⟩ : ∃ j_ : Int, (shl .u64 (IntKind.u64.wrap (bt t154 x21_1)) (ji9)) = j_ := ⟨_, rfl⟩
              replace H : (codec_get_uint8.l0 k1 (Go.bits .or .u8 x4_1 ((ji11) % 256)) t154 (t154.size : Int) (wrap64 (x21_1 + 1)) t156 t157) = some (r1, r2, r3) := by first | (rw [hji11] at H; exact H) | (simp only [hji11] at H ⊢; exact H)
              have hji11_ : (IntKind.u64.wrap ((IntKind.u64.wrap (bt t154 x21_1)) * 2 ^ min (ji9).toNat 64)) = ji11 := hji11
              have hji11z : (ji9) ≤ 64 → (IntKind.u64.wrap ((IntKind.u64.wrap (bt t154 x21_1)) * 2 ^ (ji9).toNat)) = ji11 := shl_small hji11
              have H' := Aside0.mk H
              clear H
              have p8 : 0 ≤ (x21_1 : Int) := of_decide_eq_true (by first | (with_reducible assumption) | assumption)
              have q8 : x21_1 < (t154.size : Int) := of_decide_eq_true (by first | (with_reducible assumption) | assumption)
              have hx8 := bt_at t154 x21_1
              replace p8 := eq_true p8
              replace q8 := eq_true q8
              go_wp2
              go_roundg k1
              case measure => have := HK1.out; omega
              case rel => exact ⟨(Go.bits .or .u8 x4_1 ((ji11) % 256)), (wrap64 (x21_1 + 1)), (by first | rfl | (simp; done) | (simp only [← hji11] <;> (first | rfl | simp)) | (simp [*]; done)), (by first | rfl | (simp; done) | (simp [*]; done)), H', ⟨by have := HK1.out; omega⟩, ⟨by repeat (first | (with_reducible first | exact HI0.out | apply IsS130.alloc | apply IsS130.drewN | apply IsS130.drew | apply IsS130.set_0 | apply IsS130.set_1) | exact HI0.out)⟩, ⟨by repeat (first | (with_reducible first | exact HK.out | apply KeepBut.set_ | apply keep_drewN | apply keep_drew | apply keep_alloc) | exact HK.out)⟩, ⟨by repeat (first | (with_reducible first | exact HB.out | apply below_alloc | apply pw_below_drewN | apply below_drew1 | refine below_set ?_ (IsS130.ge HI0.out)) | exact HB.out)⟩⟩
            · rw [if_neg c10] at H
              exact absurd H (by simp)
          · rw [if_neg c7] at H
            exact absurd H (by simp)
        · rw [if_neg c6] at H
          exact absurd H (by simp)
      · rw [if_neg c5] at H
        have c5b0 : decide (x21_1 < (t154.size : Int)) = false := decide_eq_false c5
        clear c5
        simp only [Option.some.injEq, Prod.mk.injEq] at H
        obtain ⟨rfl, rfl, rfl⟩ := H
        go_wp2
        go_ret
        exact ⟨by first | rfl | (simp [errW_none, errW_some] <;> rfl) | (simp [*, errW_none, errW_some] <;> rfl), by repeat (first | (with_reducible first | exact HI0.out | apply IsS130.alloc | apply IsS130.drewN | apply IsS130.drew | apply IsS130.set_0 | apply IsS130.set_1) | exact HI0.out), by repeat (first | (with_reducible first | exact HB.out | apply below_alloc | apply pw_below_drewN | apply below_drew1 | refine below_set ?_ (IsS130.ge HI0.out)) | exact HB.out), by repeat (first | (with_reducible first | exact HK.out | apply KeepBut.set_ | apply keep_drewN | apply keep_drew | apply keep_alloc) | exact HK.out)⟩
/-! ### codec_Reader_U8: function 37 -/
def codec_Reader_U8.f (k : Nat) (s0_0 : ByteArray) (s0_1 : Int) : Option (Int × ByteArray × Int) := (codec_get_uint8.f k s0_0 s0_1 1).bind fun bt158 => (some (bt158.1, bt158.2.1, bt158.2.2))
set_option maxHeartbeats 8000000 in
set_option maxRecDepth 100000 in
theorem codec_Reader_U8.calls (k : Nat) (g : Nat) (s0_0 : ByteArray) (s0_1 : Int) (r1 : Int) (r2 : ByteArray) (r3 : Int) (w0 w : World) (hI : IsS130 w0 w g s0_0 s0_1) (hB : Below w0.heap.size w0 w) (h : codec_Reader_U8.f k s0_0 s0_1 = some (r1, r2, r3)) :
    Calls Tryd.prog 37 #[.pointer (some ⟨g, 0, none⟩)] w fun e w' => e = .returned (.int .u8 r1) ∧ IsS130 w0 w' g r2 r3 ∧ Below w0.heap.size w0 w' ∧ KeepBut w w' g none := by
  have HI0 := Aside0.mk hI
  have HK := Aside0.mk (KeepBut.refl w g none)
  have HL := Aside0.mk hB.size
  clear hI
  have HW0 := Aside0.mk hB.size
  have HB := Aside0.mk hB
  clear hB
  have H : ((codec_get_uint8.f k s0_0 s0_1 1).bind fun bt158 => (some (bt158.1, bt158.2.1, bt158.2.2))) = some (r1, r2, r3) := h
  clear h
  replace H := Option.bind_eq_some_iff.mp H
  obtain ⟨⟨t158, t159, t160⟩, A20, H⟩ := H
  replace H : (some (t158, t159, t160)) = some (r1, r2, r3) := H
  have A2 := Aside0.mk A20
  clear A20
  simp only [Option.some.injEq, Prod.mk.injEq] at H
  obtain ⟨rfl, rfl, rfl⟩ := H
  go_enter Tryd.func37, Tryd.ntmps37
  go_wp2_with (first | ((with_reducible refine gate_callee (f := 68) rfl ?_); refine goesL_ (some 4) rfl rfl Tryd.func68 (by kernel_rfl) rfl #[.pointer (some ⟨g, 0, none⟩), .int .i64 1] rfl (by (try simp only [List.map_toArray, List.map_cons, List.map_nil]); first | done | rfl | (simp only [List.length_drop, List.length_take]; rfl)) ?_; (with_reducible refine (codec_get_uint8.calls k g s0_0 s0_1 1 t158 t159 t160 w0 _ ?side1 ?side2 A2.out).mono ?_); (case side1 => repeat (first | (with_reducible first | exact HI0.out | apply IsS130.alloc | apply IsS130.drewN | apply IsS130.drew | apply IsS130.set_0 | apply IsS130.set_1) | exact HI0.out)); (case side2 => repeat (first | (with_reducible first | exact HB.out | apply below_alloc | apply pw_below_drewN | apply below_drew1 | refine below_set ?_ (IsS130.ge HI0.out)) | exact HB.out)); rintro e w3 ⟨rfl, hi, hb, hk⟩; refine ⟨_, rfl, ?_⟩; have n0_ := Aside0.mk (KeepBut.trans (by repeat (first | (with_reducible first | exact HK.out | apply KeepBut.set_ | apply keep_drewN | apply keep_drew | apply keep_alloc) | exact HK.out)) hk (.inl rfl)); have n1_ := Aside0.mk (hb); have n2_ := Aside0.mk (hi); clear HK; clear HB; clear HI0; have HK := n0_; have HB := n1_; have HI0 := n2_; clear n0_ n1_ n2_; (try clear hb); (try clear hb2); (try clear hk); (try clear hi)))
  go_ret
  exact ⟨by first | rfl | (simp [errW_none, errW_some] <;> rfl) | (simp [*, errW_none, errW_some] <;> rfl), by repeat (first | (with_reducible first | exact HI0.out | apply IsS130.alloc | apply IsS130.drewN | apply IsS130.drew | apply IsS130.set_0 | apply IsS130.set_1) | exact HI0.out), by repeat (first | (with_reducible first | exact HB.out | apply below_alloc | apply pw_below_drewN | apply below_drew1 | refine below_set ?_ (IsS130.ge HI0.out)) | exact HB.out), by repeat (first | (with_reducible first | exact HK.out | apply KeepBut.set_ | apply keep_drewN | apply keep_drew | apply keep_alloc) | exact HK.out)⟩
/-! ### codec_Reader_Err: function 38 -/
def codec_Reader_Err.f (s0_0 : ByteArray) (s0_1 : Int) : Option (Int × ByteArray × Int) := some (s0_1, s0_0, s0_1)
set_option maxHeartbeats 8000000 in
set_option maxRecDepth 100000 in
theorem codec_Reader_Err.calls (g : Nat) (s0_0 : ByteArray) (s0_1 : Int) (r1 : Int) (r2 : ByteArray) (r3 : Int) (w0 w : World) (hI : IsS130 w0 w g s0_0 s0_1) (hB : Below w0.heap.size w0 w) (h : codec_Reader_Err.f s0_0 s0_1 = some (r1, r2, r3)) :
    Calls Tryd.prog 38 #[.pointer (some ⟨g, 0, none⟩)] w fun e w' => e = .returned (.int .i64 r1) ∧ IsS130 w0 w' g r2 r3 ∧ Below w0.heap.size w0 w' ∧ KeepBut w w' g none := by
  have HI0 := Aside0.mk hI
  have HK := Aside0.mk (KeepBut.refl w g none)
  have HL := Aside0.mk hB.size
  clear hI
  have HW0 := Aside0.mk hB.size
  have HB := Aside0.mk hB
  clear hB
  have H : (some (s0_1, s0_0, s0_1)) = some (r1, r2, r3) := h
  clear h
  simp only [Option.some.injEq, Prod.mk.injEq] at H
  obtain ⟨rfl, rfl, rfl⟩ := H
  obtain ⟨HGz2, hgz2⟩ := HI0.out
  have hcz2_0 := cellS130_0 HGz2
  have hcz2_1 := cellS130_1 HGz2
  have hfz2_0 := blk_frozen HGz2 0
  have hfz2_1 := blk_frozen HGz2 1
  clear HGz2 hgz2
  go_enter Tryd.func38, Tryd.ntmps38
  go_wp2
  go_ret
  exact ⟨by first | rfl | (simp [errW_none, errW_some] <;> rfl) | (simp [*, errW_none, errW_some] <;> rfl), by repeat (first | (with_reducible first | exact HI0.out | apply IsS130.alloc | apply IsS130.drewN | apply IsS130.drew | apply IsS130.set_0 | apply IsS130.set_1) | exact HI0.out), by repeat (first | (with_reducible first | exact HB.out | apply below_alloc | apply pw_below_drewN | apply below_drew1 | refine below_set ?_ (IsS130.ge HI0.out)) | exact HB.out), by repeat (first | (with_reducible first | exact HK.out | apply KeepBut.set_ | apply keep_drewN | apply keep_drew | apply keep_alloc) | exact HK.out)⟩
/-! ### input_Legal: function 87 -/
def input_Legal.f (a0 : Int) : Option (Bool) := some (decide (a0 < 64))
set_option maxHeartbeats 8000000 in
set_option maxRecDepth 100000 in
theorem input_Legal.calls (a0 : Int) (r : Bool) (w : World) (h : input_Legal.f a0 = some r) :
    Calls Tryd.prog 87 #[.int .u8 a0] w fun e w' => e = .returned (.bool r) ∧ Drawn0 w w' := by
  have H : (some (decide (a0 < 64))) = some r := h
  clear h
  obtain rfl := Option.some.inj H
  go_enter Tryd.func87, Tryd.ntmps87
  go_wp2
  go_ret
  exact ⟨by first | rfl | (simp; done) | (simp [*]; done), by repeat (first | exact Drawn0.refl _ | apply Drawn0.step)⟩
end Go.Proofs.YtnhjhaphfdlkfaaDoor.HF
/- The plain law of the checksum: four bits by the table are four single bits; so a byte by the table is eight single bits. -/
set_option linter.unusedVariables false
namespace Go.Proofs.YtnhjhaphfdlkfaaDoor.CrcLaw
open Go.RowKit
/-- The table over the natural numbers. -/
def tabN (i : Nat) : Nat := [0, 498536548, 997073096, 651767980, 1994146192, 1802195444, 1303535960, 1342533948, 3988292384, 4027552580, 3604390888, 3412177804, 2607071920, 2262029012, 2685067896, 3183342108].getD i 0
def halfN (c : Nat) : Nat := tabN (c % 16) ^^^ (c / 16)
def stepN (c b : Nat) : Nat := halfN (halfN (c ^^^ b))
end Go.Proofs.YtnhjhaphfdlkfaaDoor.CrcLaw
/- Plain laws: the checksum, numbers, frames, a reader: what the printed functions come to. -/
set_option linter.unusedVariables false
namespace Go.Proofs.YtnhjhaphfdlkfaaDoor.SB
open Go.RowKit Go.Proofs.YtnhjhaphfdlkfaaDoor.HF Go.Proofs.YtnhjhaphfdlkfaaDoorW.PrintWords Go.Proofs.YtnhjhaphfdlkfaaDoorW.PrintLast Go.Proofs.YtnhjhaphfdlkfaaDoorW.PrintMore
open Go.Proofs.YtnhjhaphfdlkfaaDoor.CrcLaw
/-- With enough rounds it is so. -/
def Evt {α : Type} (g : Nat → Option α) (r : α) : Prop := ∃ K, ∀ k, K ≤ k → g k = some r
theorem Evt.of {α : Type} {g : Nat → Option α} {r : α} (K : Nat) (h : ∀ k, K ≤ k → g k = some r) : Evt g r := ⟨K, h⟩
theorem Evt.pure {α : Type} (r : α) : Evt (fun _ => some r) r := ⟨0, fun _ _ => rfl⟩
theorem Evt.bind {α β : Type} {g : Nat → Option α} {r : α} {f : Nat → α → Option β} {s : β} (h : Evt g r) (h2 : Evt (fun k => f k r) s) : Evt (fun k => (g k).bind (f k)) s := by
  obtain ⟨K, h⟩ := h
  obtain ⟨K2, h2⟩ := h2
  exact ⟨max K K2, fun k hk => by show (g k).bind (f k) = some s; rw [h k (by omega)]; exact h2 k (by omega)⟩
/-! ### numbers of 32 bits -/
theorem bits32 (op : BinOp) (a b : Nat) (ha : a < 4294967296) (hb : b < 4294967296) : Go.bits .xor .u32 a b = ((a ^^^ b : Nat) : Int) := by
  have hx : a ^^^ b < 2 ^ 32 := Nat.xor_lt_two_pow ha hb
  have e : (BitVec.ofInt 32 (a : Int) ^^^ BitVec.ofInt 32 (b : Int)).toNat = a ^^^ b := by
    rw [BitVec.toNat_xor, BitVec.ofInt_natCast, BitVec.ofInt_natCast, BitVec.toNat_ofNat, BitVec.toNat_ofNat, Nat.mod_eq_of_lt (show a < 2 ^ 32 from ha), Nat.mod_eq_of_lt (show b < 2 ^ 32 from hb)]
  show IntKind.u32.wrap (((BitVec.ofInt 32 (a : Int) ^^^ BitVec.ofInt 32 (b : Int)).toNat : Nat) : Int) = _
  rw [e, IntKind.wrap_u32]
  have : ((a ^^^ b : Nat) : Int) < ((4294967296 : Nat) : Int) := Int.ofNat_lt.2 hx
  omega
theorem and32 (a m j : Nat) (hm : m = 2 ^ j - 1) (hj : j ≤ 32) (ha : a < 4294967296) : Go.bits .and .u32 a m = ((a % 2 ^ j : Nat) : Int) := by
  have h := bits_mask .u32 32 (by decide) (fun n h0 h1 => by rw [IntKind.wrap_u32]; omega) j hj (a : Int) (by omega) (by omega)
  have e : ((m : Nat) : Int) = 2 ^ j - 1 := by
    subst hm
    rw [Int.natCast_sub (Nat.one_le_two_pow)]; simp
  rw [e, h]
  simp
theorem tab_is (i : Nat) (hi : i < 16) : Crc.tab (i : Int) = ((tabN i : Nat) : Int) := by
  have : ∀ i : Nat, i < 16 → Crc.tab (i : Int) = ((tabN i : Nat) : Int) := by decide
  exact this i hi
theorem tabN_lt (i : Nat) : tabN i < 4294967296 := by
  unfold tabN
  rcases Nat.lt_or_ge i 16 with h | h
  · have : ∀ i, i < 16 → tabN i < 4294967296 := by decide
    exact this i h
  · rw [List.getD_eq_getElem?_getD, List.getElem?_eq_none (by simpa using h)]; decide
theorem half_int (c : Nat) (hc : c < 4294967296) : Crc.half (c : Int) = ((halfN c : Nat) : Int) := by
  unfold Crc.half halfN
  have h := and32 c 15 4 (by decide) (by decide) hc
  rw [show ((15 : Nat) : Int) = 15 from rfl] at h
  rw [h, tab_is _ (Nat.mod_lt _ (by decide)), show ((c : Int) / 16) = ((c / 16 : Nat) : Int) by omega]
  exact bits32 .xor _ _ (tabN_lt _) (by omega)
theorem halfN_lt (c : Nat) (hc : c < 4294967296) : halfN c < 4294967296 := Nat.xor_lt_two_pow (n := 32) (tabN_lt _) (Nat.lt_of_le_of_lt (Nat.div_le_self _ _) hc)
theorem stepN_lt (c b : Nat) (hc : c < 4294967296) (hb : b < 256) : stepN c b < 4294967296 := halfN_lt _ (halfN_lt _ (Nat.xor_lt_two_pow (n := 32) hc (by omega)))
theorem step_int (c b : Nat) (hc : c < 4294967296) (hb : b < 256) : Crc.stepI (c : Int) (b : Int) = ((stepN c b : Nat) : Int) := by
  unfold Crc.stepI stepN
  have hx : c ^^^ b < 4294967296 := Nat.xor_lt_two_pow (n := 32) hc (by omega)
  rw [bits32 .xor c b hc (by omega), half_int _ hx, half_int _ (halfN_lt _ hx)]
/-! ### the checksum of a text -/
def foldN (c : Nat) (l : List UInt8) : Nat := l.foldl (fun c b => stepN c b.toNat) c
theorem foldN_lt (l : List UInt8) : ∀ c, c < 4294967296 → foldN c l < 4294967296 := by
  induction l with
  | nil => exact fun c h => h
  | cons b l ih => exact fun c h => ih _ (stepN_lt c b.toNat h b.toNat_lt)
theorem foldN_append (c : Nat) (a b : List UInt8) : foldN c (a ++ b) = foldN (foldN c a) b := List.foldl_append
def flip (c : Nat) : Nat := c ^^^ 4294967295
theorem flip_lt (c : Nat) (h : c < 4294967296) : flip c < 4294967296 := Nat.xor_lt_two_pow (n := 32) h (by decide)
theorem flip_flip (c : Nat) : flip (flip c) = c := by unfold flip; rw [Nat.xor_assoc, Nat.xor_self, Nat.xor_zero]
/-- P3.1. -/
def updN (c : Nat) (s : ByteArray) : Nat := flip (foldN (flip c) s.data.toList)
theorem updN_lt (c : Nat) (s : ByteArray) (h : c < 4294967296) : updN c s < 4294967296 := flip_lt _ (foldN_lt _ _ (flip_lt c h))
theorem updN_append (c : Nat) (a b : ByteArray) : updN (updN c a) b = updN c (a ++ b) := by
  unfold updN
  rw [flip_flip, ByteArray.data_append, Array.toList_append, foldN_append]
theorem flip_int' (c : Nat) (h : c < 4294967296) : Go.bits .xor .u32 4294967295 (c : Int) = ((flip c : Nat) : Int) := by
  rw [show (4294967295 : Int) = ((4294967295 : Nat) : Int) from rfl, bits32 .xor 4294967295 c (by decide) h, Nat.xor_comm]; rfl
theorem bt_nat (s : ByteArray) (i : Nat) (h : i < s.size) : bt s (i : Int) = ((s.data.toList[i]'(by simpa using h)).toNat : Int) := by
  unfold bt
  rw [dif_pos (by simpa using h)]
  simp
  rfl
theorem drop_cons (s : ByteArray) (i : Nat) (h : i < s.size) : ∃ b : UInt8, s.data.toList.drop i = b :: s.data.toList.drop (i + 1) ∧ bt s (i : Int) = (b.toNat : Int) :=
  ⟨s.data.toList[i]'(by simpa using h), List.drop_eq_getElem_cons (by simpa using h), bt_nat s i h⟩
theorem step_f (c : Nat) (b : UInt8) (hc : c < 4294967296) : crc_step.f (c : Int) (b.toNat : Int) = some ((stepN c b.toNat : Nat) : Int) := by
  have := b.toNat_lt
  unfold crc_step.f
  rw [if_pos (by omega), step_int c b.toNat hc (by omega)]
theorem update_loop (s : ByteArray) (hs : s.size < 9223372036854775807) (d : Nat) : ∀ (k i c : Nat), c < 4294967296 → i + d = s.size → d < k →
    crc_Update.l0 k (c : Int) s (s.size : Int) (i : Int) = some ((flip (foldN c (s.data.toList.drop i)) : Nat) : Int) := by
  induction d with
  | zero =>
    intro k i c hc hd hk
    obtain ⟨k, rfl⟩ : ∃ m, k = m + 1 := ⟨k - 1, by omega⟩
    simp only [crc_Update.l0]
    rw [if_neg (by omega), List.drop_eq_nil_of_le (by simp; omega), flip_int' c hc]
    rfl
  | succ d ih =>
    intro k i c hc hd hk
    obtain ⟨k, rfl⟩ : ∃ m, k = m + 1 := ⟨k - 1, by omega⟩
    obtain ⟨b, e, hb⟩ := drop_cons s i (by omega)
    have h2 := b.toNat_lt
    simp only [crc_Update.l0]
    rw [if_pos (by omega), if_pos (by omega), if_pos (by omega), hb, step_f c b hc, Option.bind_some]
    rw [show wrap64 ((i : Int) + 1) = ((i + 1 : Nat) : Int) by unfold wrap64; omega, e]
    exact ih k (i + 1) _ (stepN_lt c b.toNat hc h2) (by omega) (by omega)
theorem update_f (c : Nat) (hc : c < 4294967296) (s : ByteArray) (hs : s.size < 9223372036854775807) (k : Nat) (hk : s.size < k) : crc_Update.f k (c : Int) s = some ((updN c s : Nat) : Int) := by
  unfold crc_Update.f
  rw [flip_int' c hc]
  have := update_loop s hs s.size k 0 (flip c) (flip_lt c hc) (by omega) hk
  simpa [updN] using this
theorem sum_f (s : ByteArray) (hs : s.size < 9223372036854775807) (k : Nat) (hk : s.size < k) : crc_Sum.f k s = some ((updN 0 s : Nat) : Int) := by
  unfold crc_Sum.f
  have := update_f 0 (by decide) s hs k hk
  rw [show ((0 : Nat) : Int) = 0 from rfl] at this
  rw [this, Option.bind_some]
/-- P4.1. -/
def headN (a : ByteArray) : List Int := Wr.leBytes (a.size : Int) 2 ++ Wr.leBytes ((updN 0 (strOfNums (Wr.leBytes (a.size : Int) 2) ++ a) : Nat) : Int) 4
def frameN (a : ByteArray) : ByteArray := strOfNums (headN a) ++ a
theorem str_len (l : List Int) : (strOfNums l).size = l.length := Wr.str_size l
theorem frame_put_f (a : ByteArray) (ha : a.size ≤ 4096) (k : Nat) (hk : 5000 < k) : frame_Put.f k a = some (frameN a, 0) := by
  unfold frame_Put.f
  rw [if_neg (by omega)]
  have hl : (strOfNums (Wr.leBytes (a.size : Int) 2)).size = 2 := by rw [str_len, Wr.leBytes_len]
  rw [sum_f _ (by omega) k (by omega), Option.bind_some]
  have h1 := updN_lt 0 (strOfNums (Wr.leBytes (a.size : Int) 2)) (by decide)
  rw [update_f _ h1 a (by omega) k (by omega), Option.bind_some, updN_append]
  have h2 := updN_lt 0 (strOfNums (Wr.leBytes (a.size : Int) 2) ++ a) (by decide)
  rw [if_pos (by omega)]
  rfl
/-- A number, the lowest byte first. -/
def numN : List UInt8 → Nat
  | [] => 0
  | b :: l => b.toNat + 256 * numN l
theorem numN_lt (l : List UInt8) : numN l < 256 ^ l.length := by
  induction l with
  | nil => decide
  | cons b l ih =>
    have := b.toNat_lt
    simp only [numN, List.length_cons, Nat.pow_succ]
    omega
theorem numN_snoc (l : List UInt8) (b : UInt8) : numN (l ++ [b]) = numN l + b.toNat * 256 ^ l.length := by
  induction l with
  | nil => simp [numN]
  | cons a l ih =>
    simp only [List.cons_append, numN, ih, List.length_cons, Nat.pow_succ, Nat.mul_add]
    rw [Nat.mul_comm 256 (b.toNat * 256 ^ l.length), Nat.mul_assoc]
    omega
theorem pow256 (i : Nat) : 256 ^ i = 2 ^ (8 * i) := by rw [Nat.pow_mul]
theorem or_comm_bits (k : IntKind) (x y : Int) : Go.bits .or k x y = Go.bits .or k y x := by
  unfold Go.bits
  simp only [BitVec.or_comm]
theorem or_join (k : IntKind) (j : Nat) (hj : j ≤ k.bits) (hk : ∀ n : Int, 0 ≤ n → n < 2 ^ j → k.wrap n = n) (i x b : Nat) (hx : x < 2 ^ i) (hb : b * 2 ^ i < 2 ^ j) (hij : i ≤ j) :
    Go.bits .or k (x : Int) ((b * 2 ^ i : Nat) : Int) = ((x + b * 2 ^ i : Nat) : Int) := by
  have p : (2 : Nat) ^ i ≤ 2 ^ j := Nat.pow_le_pow_right (by decide) hij
  rw [or_comm_bits, bits_join k j hj hk i]
  · omega
  · omega
  · have : b * 2 ^ i % 2 ^ i = 0 := Nat.mul_mod_left _ _
    exact_mod_cast this
  · exact_mod_cast hb
  · omega
  · exact_mod_cast hx
  · exact_mod_cast (Nat.lt_of_lt_of_le hx p)
theorem shl_nat (b i : Nat) (hb : b < 256) (hi : i < 8) : shl .u64 (IntKind.u64.wrap (b : Int)) (wrap64 (8 * (i : Int))) = ((b * 2 ^ (8 * i) : Nat) : Int) := by
  have e1 : IntKind.u64.wrap (b : Int) = (b : Int) := IntWalk.u64_in _ ⟨by omega, by omega⟩
  have e2 : wrap64 (8 * (i : Int)) = ((8 * i : Nat) : Int) := by unfold wrap64; omega
  rw [e1, e2]
  unfold shl
  rw [Int.toNat_natCast, show min (8 * i) IntKind.u64.bits = 8 * i by show min (8 * i) 64 = 8 * i; omega]
  have e3 : (b : Int) * 2 ^ (8 * i) = ((b * 2 ^ (8 * i) : Nat) : Int) := by simp
  rw [e3]
  have h1 : b * 2 ^ (8 * i) < 256 * 2 ^ (8 * i) := Nat.mul_lt_mul_of_pos_right hb (Nat.two_pow_pos _)
  have h2 : 256 * 2 ^ (8 * i) ≤ 2 ^ 64 := by
    have : 256 * 2 ^ (8 * i) = 2 ^ (8 + 8 * i) := by rw [Nat.pow_add]
    rw [this]; exact Nat.pow_le_pow_right (by decide) (by omega)
  have h3 : b * 2 ^ (8 * i) < 2 ^ 64 := Nat.lt_of_lt_of_le h1 h2
  generalize b * 2 ^ (8 * i) = m at h3
  exact IntWalk.u64_in _ ⟨by omega, by omega⟩
theorem byte_fits (b i w : Nat) (hb : b < 256) (hi : i < w) : b * 2 ^ (8 * i) < 2 ^ (8 * w) := by
  have h1 : b * 2 ^ (8 * i) < 256 * 2 ^ (8 * i) := Nat.mul_lt_mul_of_pos_right hb (Nat.two_pow_pos _)
  have h2 : 256 * 2 ^ (8 * i) = 2 ^ (8 * (i + 1)) := by rw [Nat.mul_add, Nat.pow_add, Nat.mul_comm]
  have h3 : (2 : Nat) ^ (8 * (i + 1)) ≤ 2 ^ (8 * w) := Nat.pow_le_pow_right (by decide) (by omega)
  omega
theorem take_bt (s : ByteArray) (i : Nat) (h : i < s.size) : ∃ b : UInt8, s.data.toList.take (i + 1) = s.data.toList.take i ++ [b] ∧ bt s (i : Int) = (b.toNat : Int) :=
  ⟨s.data.toList[i]'(by simpa using h), List.take_succ_eq_append_getElem (by simpa using h), bt_nat s i h⟩
theorem get64_loop (s : ByteArray) (hs : s.size ≤ 8) (r : ByteArray) (e : Int) (d : Nat) : ∀ (k i : Nat), i + d = s.size → d < k →
    codec_get_uint64.l0 k ((numN (s.data.toList.take i) : Nat) : Int) s (s.size : Int) (i : Int) r e = some (((numN s.data.toList : Nat) : Int), r, e) := by
  induction d with
  | zero =>
    intro k i hd hk
    obtain ⟨k, rfl⟩ : ∃ m, k = m + 1 := ⟨k - 1, by omega⟩
    simp only [codec_get_uint64.l0]
    rw [if_neg (by omega), List.take_of_length_le (by simp; omega)]
  | succ d ih =>
    intro k i hd hk
    obtain ⟨k, rfl⟩ : ∃ m, k = m + 1 := ⟨k - 1, by omega⟩
    obtain ⟨b, e1, e2⟩ := take_bt s i (by omega)
    have hb := b.toNat_lt
    have hw : wrap64 ((i : Int) + 1) = ((i + 1 : Nat) : Int) := by unfold wrap64; omega
    have hl : (s.data.toList.take i).length = i := by rw [List.length_take]; simp; omega
    have hx := numN_lt (s.data.toList.take i)
    rw [hl, pow256] at hx
    have hf := byte_fits b.toNat i 8 (by omega) (by omega)
    have hn := ih k (i + 1) (by omega) (by omega)
    have hs8 := shl_nat b.toNat i (by omega) (by omega)
    have h8 : 0 ≤ wrap64 (8 * (i : Int)) := by unfold wrap64; omega
    simp only [codec_get_uint64.l0]
    rw [if_pos (by omega), if_pos (by omega), if_pos (by omega), if_pos h8, e2, hs8, hw]
    have hc : ((b.toNat * 2 ^ (8 * i) : Nat) : Int) = ((b.toNat * 2 ^ (8 * i) : Nat) : Int) := by
      generalize b.toNat * 2 ^ (8 * i) = m at hf
      rfl
    rw [or_join .u64 64 (by decide) (fun n h0 h1 => by exact IntWalk.u64_in _ ⟨h0, by omega⟩) (8 * i) _ b.toNat hx hf (by omega)]
    have h9 : numN (s.data.toList.take i) + b.toNat * 2 ^ (8 * i) = numN (s.data.toList.take (i + 1)) := by rw [e1, numN_snoc, hl, pow256]
    rw [h9]
    exact hn
theorem get32_loop (s : ByteArray) (hs : s.size ≤ 4) (r : ByteArray) (e : Int) (d : Nat) : ∀ (k i : Nat), i + d = s.size → d < k →
    codec_get_uint32.l0 k ((numN (s.data.toList.take i) : Nat) : Int) s (s.size : Int) (i : Int) r e = some (((numN s.data.toList : Nat) : Int), r, e) := by
  induction d with
  | zero =>
    intro k i hd hk
    obtain ⟨k, rfl⟩ : ∃ m, k = m + 1 := ⟨k - 1, by omega⟩
    simp only [codec_get_uint32.l0]
    rw [if_neg (by omega), List.take_of_length_le (by simp; omega)]
  | succ d ih =>
    intro k i hd hk
    obtain ⟨k, rfl⟩ : ∃ m, k = m + 1 := ⟨k - 1, by omega⟩
    obtain ⟨b, e1, e2⟩ := take_bt s i (by omega)
    have hb := b.toNat_lt
    have hw : wrap64 ((i : Int) + 1) = ((i + 1 : Nat) : Int) := by unfold wrap64; omega
    have hl : (s.data.toList.take i).length = i := by rw [List.length_take]; simp; omega
    have hx := numN_lt (s.data.toList.take i)
    rw [hl, pow256] at hx
    have hf := byte_fits b.toNat i 4 (by omega) (by omega)
    have hn := ih k (i + 1) (by omega) (by omega)
    have hs8 := shl_nat b.toNat i (by omega) (by omega)
    have h8 : 0 ≤ wrap64 (8 * (i : Int)) := by unfold wrap64; omega
    simp only [codec_get_uint32.l0]
    rw [if_pos (by omega), if_pos (by omega), if_pos (by omega), if_pos h8, e2, hs8, hw]
    have hc : ((b.toNat * 2 ^ (8 * i) : Nat) : Int) % 4294967296 = ((b.toNat * 2 ^ (8 * i) : Nat) : Int) := by
      generalize b.toNat * 2 ^ (8 * i) = m at hf
      omega
    rw [hc, or_join .u32 32 (by decide) (fun n h0 h1 => by rw [IntKind.wrap_u32]; omega) (8 * i) _ b.toNat hx hf (by omega)]
    have h9 : numN (s.data.toList.take i) + b.toNat * 2 ^ (8 * i) = numN (s.data.toList.take (i + 1)) := by rw [e1, numN_snoc, hl, pow256]
    rw [h9]
    exact hn
theorem get16_loop (s : ByteArray) (hs : s.size ≤ 2) (r : ByteArray) (e : Int) (d : Nat) : ∀ (k i : Nat), i + d = s.size → d < k →
    codec_get_uint16.l0 k ((numN (s.data.toList.take i) : Nat) : Int) s (s.size : Int) (i : Int) r e = some (((numN s.data.toList : Nat) : Int), r, e) := by
  induction d with
  | zero =>
    intro k i hd hk
    obtain ⟨k, rfl⟩ : ∃ m, k = m + 1 := ⟨k - 1, by omega⟩
    simp only [codec_get_uint16.l0]
    rw [if_neg (by omega), List.take_of_length_le (by simp; omega)]
  | succ d ih =>
    intro k i hd hk
    obtain ⟨k, rfl⟩ : ∃ m, k = m + 1 := ⟨k - 1, by omega⟩
    obtain ⟨b, e1, e2⟩ := take_bt s i (by omega)
    have hb := b.toNat_lt
    have hw : wrap64 ((i : Int) + 1) = ((i + 1 : Nat) : Int) := by unfold wrap64; omega
    have hl : (s.data.toList.take i).length = i := by rw [List.length_take]; simp; omega
    have hx := numN_lt (s.data.toList.take i)
    rw [hl, pow256] at hx
    have hf := byte_fits b.toNat i 2 (by omega) (by omega)
    have hn := ih k (i + 1) (by omega) (by omega)
    have hs8 := shl_nat b.toNat i (by omega) (by omega)
    have h8 : 0 ≤ wrap64 (8 * (i : Int)) := by unfold wrap64; omega
    simp only [codec_get_uint16.l0]
    rw [if_pos (by omega), if_pos (by omega), if_pos (by omega), if_pos h8, e2, hs8, hw]
    have hc : IntKind.u16.wrap ((b.toNat * 2 ^ (8 * i) : Nat) : Int) = ((b.toNat * 2 ^ (8 * i) : Nat) : Int) := by
      generalize b.toNat * 2 ^ (8 * i) = m at hf
      simp only [IntKind.wrap, IntKind.bits, IntKind.signed]; simp; omega
    rw [hc, or_join .u16 16 (by decide) (fun n h0 h1 => by simp only [IntKind.wrap, IntKind.bits, IntKind.signed]; simp; omega) (8 * i) _ b.toNat hx hf (by omega)]
    have h9 : numN (s.data.toList.take i) + b.toNat * 2 ^ (8 * i) = numN (s.data.toList.take (i + 1)) := by rw [e1, numN_snoc, hl, pow256]
    rw [h9]
    exact hn
theorem get8_loop (s : ByteArray) (hs : s.size ≤ 1) (r : ByteArray) (e : Int) (d : Nat) : ∀ (k i : Nat), i + d = s.size → d < k →
    codec_get_uint8.l0 k ((numN (s.data.toList.take i) : Nat) : Int) s (s.size : Int) (i : Int) r e = some (((numN s.data.toList : Nat) : Int), r, e) := by
  induction d with
  | zero =>
    intro k i hd hk
    obtain ⟨k, rfl⟩ : ∃ m, k = m + 1 := ⟨k - 1, by omega⟩
    simp only [codec_get_uint8.l0]
    rw [if_neg (by omega), List.take_of_length_le (by simp; omega)]
  | succ d ih =>
    intro k i hd hk
    obtain ⟨k, rfl⟩ : ∃ m, k = m + 1 := ⟨k - 1, by omega⟩
    obtain ⟨b, e1, e2⟩ := take_bt s i (by omega)
    have hb := b.toNat_lt
    have hw : wrap64 ((i : Int) + 1) = ((i + 1 : Nat) : Int) := by unfold wrap64; omega
    have hl : (s.data.toList.take i).length = i := by rw [List.length_take]; simp; omega
    have hx := numN_lt (s.data.toList.take i)
    rw [hl, pow256] at hx
    have hf := byte_fits b.toNat i 1 (by omega) (by omega)
    have hn := ih k (i + 1) (by omega) (by omega)
    have hs8 := shl_nat b.toNat i (by omega) (by omega)
    have h8 : 0 ≤ wrap64 (8 * (i : Int)) := by unfold wrap64; omega
    simp only [codec_get_uint8.l0]
    rw [if_pos (by omega), if_pos (by omega), if_pos (by omega), if_pos h8, e2, hs8, hw]
    have hc : ((b.toNat * 2 ^ (8 * i) : Nat) : Int) % 256 = ((b.toNat * 2 ^ (8 * i) : Nat) : Int) := by
      generalize b.toNat * 2 ^ (8 * i) = m at hf
      omega
    rw [hc, or_join .u8 8 (by decide) (fun n h0 h1 => by rw [IntKind.wrap_u8]; omega) (8 * i) _ b.toNat hx hf (by omega)]
    have h9 : numN (s.data.toList.take i) + b.toNat * 2 ^ (8 * i) = numN (s.data.toList.take (i + 1)) := by rw [e1, numN_snoc, hl, pow256]
    rw [h9]
    exact hn
/-! ### a reader, over what is left of a text (none: it was torn) -/
def bs (l : List UInt8) : ByteArray := ⟨l.toArray⟩
theorem bs_size (l : List UInt8) : (bs l).size = l.length := by simp [bs, ByteArray.size]
theorem bs_list (l : List UInt8) : (bs l).data.toList = l := by simp [bs]
theorem bs_toList (l : List UInt8) : (bs l).toList = l := by rw [ByteArray.toList_eq]; simp [bs]
theorem bs_extract (l : List UInt8) (a b : Nat) : (bs l).extract a b = bs ((l.take b).drop a) := by
  apply ByteArray.ext
  simp only [bs, ByteArray.data_extract, List.extract_toArray, List.extract_eq_take_drop, List.drop_take]
theorem bs_append (a b : List UInt8) : bs a ++ bs b = bs (a ++ b) := by apply ByteArray.ext; simp [bs, ByteArray.data_append]
def st : Option (List UInt8) → ByteArray × Int
  | some l => (bs l, 0)
  | none => (bs [], 10)
def g (w : Nat) : Option (List UInt8) → Int × Option (List UInt8)
  | some l => if w ≤ l.length then (((numN (l.take w) : Nat) : Int), some (l.drop w)) else (0, none)
  | none => (0, none)
theorem g_yes (w : Nat) (l : List UInt8) (h : w ≤ l.length) : g w (some l) = (((numN (l.take w) : Nat) : Int), some (l.drop w)) := if_pos h
theorem g_no (w : Nat) (l : List UInt8) (h : ¬ w ≤ l.length) : g w (some l) = (0, none) := if_neg h
theorem take_some (l : List UInt8) (w : Nat) (hw : w ≤ 8) (hl : l.length ≤ 100000) (h : w ≤ l.length) : codec_left_take.f (bs l) 0 (w : Int) = some (bs (l.take w), true, bs (l.drop w), 0) := by
  have e : IntKind.u64.wrap (((bs l).size : Int)) = (l.length : Int) := by rw [bs_size]; exact IntWalk.u64_in _ ⟨by omega, by omega⟩
  unfold codec_left_take.f
  rw [if_pos rfl, e, if_neg (by omega), if_pos (by omega), if_pos (by rw [bs_size]; omega), Int.toNat_natCast, bs_extract, bs_extract, List.drop_zero, bs_size, List.take_length]
theorem take_torn (l : List UInt8) (w : Nat) (hl : l.length ≤ 100000) (h : ¬ w ≤ l.length) : codec_left_take.f (bs l) 0 (w : Int) = some (bs [], false, bs [], 10) := by
  have e : IntKind.u64.wrap (((bs l).size : Int)) = (l.length : Int) := by rw [bs_size]; exact IntWalk.u64_in _ ⟨by omega, by omega⟩
  unfold codec_left_take.f codec_left_fail.f
  rw [if_pos rfl, e, if_pos (by omega), if_pos rfl, Option.bind_some]
  rfl
theorem take_none (w : Int) : codec_left_take.f (bs []) 10 w = some (bs [], false, bs [], 10) := by
  unfold codec_left_take.f
  rw [if_neg (by decide)]
  rfl
def small (r : Option (List UInt8)) : Prop := ∀ l, r = some l → l.length ≤ 100000
theorem g_small (w : Nat) (r : Option (List UInt8)) (h : small r) : small (g w r).2 := by
  intro l hl
  cases r with
  | none => simp [g] at hl
  | some l0 =>
    by_cases hw : w ≤ l0.length
    · rw [g_yes w l0 hw] at hl
      simp at hl
      have := h l0 rfl
      rw [← hl, List.length_drop]; omega
    · rw [g_no w l0 hw] at hl
      simp at hl
theorem read64 (r : Option (List UInt8)) (h : small r) (k : Nat) (hk : 20 < k) : codec_Reader_U64.f k (st r).1 (st r).2 = some ((g 8 r).1, (st (g 8 r).2).1, (st (g 8 r).2).2) := by
  have ew : IntKind.u64.wrap (8 : Int) = ((8 : Nat) : Int) := IntWalk.u64_in _ ⟨by decide, by decide⟩
  have z : codec_get_uint64.l0 k 0 (bs []) ((bs []).size : Int) 0 (bs []) 10 = some (0, bs [], 10) := by
    have := get64_loop (bs []) (by decide) (bs []) 10 0 k 0 (by decide) (by omega)
    simpa [bs_list, numN] using this
  unfold codec_Reader_U64.f codec_get_uint64.f
  cases r with
  | none =>
    show ((codec_left_take.f (bs []) 10 _).bind _).bind _ = _
    rw [take_none, Option.bind_some, z, Option.bind_some]
    rfl
  | some l =>
    have hl := h l rfl
    show ((codec_left_take.f (bs l) 0 _).bind _).bind _ = _
    rw [ew]
    by_cases hw : 8 ≤ l.length
    · have hg := g_yes 8 l hw
      rw [take_some l 8 (by decide) hl hw, Option.bind_some, hg]
      have hsz : (bs (l.take 8)).size = 8 := by rw [bs_size, List.length_take]; omega
      have := get64_loop (bs (l.take 8)) (by omega) (bs (l.drop 8)) 0 8 k 0 (by omega) (by omega)
      rw [List.take_zero, bs_list] at this
      rw [show ((0 : Nat) : Int) = 0 from rfl, show numN [] = 0 from rfl, show ((0 : Nat) : Int) = 0 from rfl] at this
      show (codec_get_uint64.l0 k 0 (bs (l.take 8)) ((bs (l.take 8)).size : Int) 0 (bs (l.drop 8)) 0).bind _ = _
      rw [this, Option.bind_some]
      rfl
    · have hg := g_no 8 l hw
      rw [take_torn l 8 hl hw, Option.bind_some, hg]
      show (codec_get_uint64.l0 k 0 (bs []) ((bs []).size : Int) 0 (bs []) 10).bind _ = _
      rw [z, Option.bind_some]
      rfl
theorem read32 (r : Option (List UInt8)) (h : small r) (k : Nat) (hk : 20 < k) : codec_Reader_U32.f k (st r).1 (st r).2 = some ((g 4 r).1, (st (g 4 r).2).1, (st (g 4 r).2).2) := by
  have ew : IntKind.u64.wrap (4 : Int) = ((4 : Nat) : Int) := IntWalk.u64_in _ ⟨by decide, by decide⟩
  have z : codec_get_uint32.l0 k 0 (bs []) ((bs []).size : Int) 0 (bs []) 10 = some (0, bs [], 10) := by
    have := get32_loop (bs []) (by decide) (bs []) 10 0 k 0 (by decide) (by omega)
    simpa [bs_list, numN] using this
  unfold codec_Reader_U32.f codec_get_uint32.f
  cases r with
  | none =>
    show ((codec_left_take.f (bs []) 10 _).bind _).bind _ = _
    rw [take_none, Option.bind_some, z, Option.bind_some]
    rfl
  | some l =>
    have hl := h l rfl
    show ((codec_left_take.f (bs l) 0 _).bind _).bind _ = _
    rw [ew]
    by_cases hw : 4 ≤ l.length
    · have hg := g_yes 4 l hw
      rw [take_some l 4 (by decide) hl hw, Option.bind_some, hg]
      have hsz : (bs (l.take 4)).size = 4 := by rw [bs_size, List.length_take]; omega
      have := get32_loop (bs (l.take 4)) (by omega) (bs (l.drop 4)) 0 4 k 0 (by omega) (by omega)
      rw [List.take_zero, bs_list] at this
      rw [show ((0 : Nat) : Int) = 0 from rfl, show numN [] = 0 from rfl, show ((0 : Nat) : Int) = 0 from rfl] at this
      show (codec_get_uint32.l0 k 0 (bs (l.take 4)) ((bs (l.take 4)).size : Int) 0 (bs (l.drop 4)) 0).bind _ = _
      rw [this, Option.bind_some]
      rfl
    · have hg := g_no 4 l hw
      rw [take_torn l 4 hl hw, Option.bind_some, hg]
      show (codec_get_uint32.l0 k 0 (bs []) ((bs []).size : Int) 0 (bs []) 10).bind _ = _
      rw [z, Option.bind_some]
      rfl
theorem read16 (r : Option (List UInt8)) (h : small r) (k : Nat) (hk : 20 < k) : codec_Reader_U16.f k (st r).1 (st r).2 = some ((g 2 r).1, (st (g 2 r).2).1, (st (g 2 r).2).2) := by
  have ew : IntKind.u64.wrap (2 : Int) = ((2 : Nat) : Int) := IntWalk.u64_in _ ⟨by decide, by decide⟩
  have z : codec_get_uint16.l0 k 0 (bs []) ((bs []).size : Int) 0 (bs []) 10 = some (0, bs [], 10) := by
    have := get16_loop (bs []) (by decide) (bs []) 10 0 k 0 (by decide) (by omega)
    simpa [bs_list, numN] using this
  unfold codec_Reader_U16.f codec_get_uint16.f
  cases r with
  | none =>
    show ((codec_left_take.f (bs []) 10 _).bind _).bind _ = _
    rw [take_none, Option.bind_some, z, Option.bind_some]
    rfl
  | some l =>
    have hl := h l rfl
    show ((codec_left_take.f (bs l) 0 _).bind _).bind _ = _
    rw [ew]
    by_cases hw : 2 ≤ l.length
    · have hg := g_yes 2 l hw
      rw [take_some l 2 (by decide) hl hw, Option.bind_some, hg]
      have hsz : (bs (l.take 2)).size = 2 := by rw [bs_size, List.length_take]; omega
      have := get16_loop (bs (l.take 2)) (by omega) (bs (l.drop 2)) 0 2 k 0 (by omega) (by omega)
      rw [List.take_zero, bs_list] at this
      rw [show ((0 : Nat) : Int) = 0 from rfl, show numN [] = 0 from rfl, show ((0 : Nat) : Int) = 0 from rfl] at this
      show (codec_get_uint16.l0 k 0 (bs (l.take 2)) ((bs (l.take 2)).size : Int) 0 (bs (l.drop 2)) 0).bind _ = _
      rw [this, Option.bind_some]
      rfl
    · have hg := g_no 2 l hw
      rw [take_torn l 2 hl hw, Option.bind_some, hg]
      show (codec_get_uint16.l0 k 0 (bs []) ((bs []).size : Int) 0 (bs []) 10).bind _ = _
      rw [z, Option.bind_some]
      rfl
theorem read8 (r : Option (List UInt8)) (h : small r) (k : Nat) (hk : 20 < k) : codec_Reader_U8.f k (st r).1 (st r).2 = some ((g 1 r).1, (st (g 1 r).2).1, (st (g 1 r).2).2) := by
  have ew : IntKind.u64.wrap (1 : Int) = ((1 : Nat) : Int) := IntWalk.u64_in _ ⟨by decide, by decide⟩
  have z : codec_get_uint8.l0 k 0 (bs []) ((bs []).size : Int) 0 (bs []) 10 = some (0, bs [], 10) := by
    have := get8_loop (bs []) (by decide) (bs []) 10 0 k 0 (by decide) (by omega)
    simpa [bs_list, numN] using this
  unfold codec_Reader_U8.f codec_get_uint8.f
  cases r with
  | none =>
    show ((codec_left_take.f (bs []) 10 _).bind _).bind _ = _
    rw [take_none, Option.bind_some, z, Option.bind_some]
    rfl
  | some l =>
    have hl := h l rfl
    show ((codec_left_take.f (bs l) 0 _).bind _).bind _ = _
    rw [ew]
    by_cases hw : 1 ≤ l.length
    · have hg := g_yes 1 l hw
      rw [take_some l 1 (by decide) hl hw, Option.bind_some, hg]
      have hsz : (bs (l.take 1)).size = 1 := by rw [bs_size, List.length_take]; omega
      have := get8_loop (bs (l.take 1)) (by omega) (bs (l.drop 1)) 0 1 k 0 (by omega) (by omega)
      rw [List.take_zero, bs_list] at this
      rw [show ((0 : Nat) : Int) = 0 from rfl, show numN [] = 0 from rfl, show ((0 : Nat) : Int) = 0 from rfl] at this
      show (codec_get_uint8.l0 k 0 (bs (l.take 1)) ((bs (l.take 1)).size : Int) 0 (bs (l.drop 1)) 0).bind _ = _
      rw [this, Option.bind_some]
      rfl
    · have hg := g_no 1 l hw
      rw [take_torn l 1 hl hw, Option.bind_some, hg]
      show (codec_get_uint8.l0 k 0 (bs []) ((bs []).size : Int) 0 (bs []) 10).bind _ = _
      rw [z, Option.bind_some]
      rfl
/-! ### the next frame -/
def sumOf (l : List UInt8) (n : Nat) : Nat := updN (updN 0 (bs (l.take 2))) (bs ((l.drop 6).take n))
def nextN (l : List UInt8) : List UInt8 × Int × Int :=
  if l.length < 6 then ([], 0, 10)
  else if 4096 < numN (l.take 2) then ([], 0, 3)
  else if (l.drop 6).length < numN (l.take 2) then ([], 0, 10)
  else if sumOf l (numN (l.take 2)) ≠ numN ((l.drop 2).take 4) then ([], 0, 9)
  else ((l.drop 6).take (numN (l.take 2)), ((6 + numN (l.take 2) : Nat) : Int), 0)
theorem next_f (l : List UInt8) (hl : l.length ≤ 100000) (k : Nat) (hk : 100010 < k) : frame_Next.f k (bs l) = some (bs (nextN l).1, (nextN l).2.1, (nextN l).2.2) := by
  unfold frame_Next.f nextN
  rw [bs_size]
  by_cases h6 : l.length < 6
  · rw [if_pos (by omega), if_pos h6]; rfl
  · rw [if_neg (by omega), if_neg h6]
    have r1 := read16 (some l) (fun x hx => by cases hx; exact hl) k (by omega)
    have g1 := g_yes 2 l (by omega)
    rw [g1] at r1
    have r2 := read32 (some (l.drop 2)) (fun x hx => by cases hx; rw [List.length_drop]; omega) k (by omega)
    have g2 := g_yes 4 (l.drop 2) (by rw [List.length_drop]; omega)
    rw [g2] at r2
    have nl : numN (l.take 2) < 65536 := by
      have := numN_lt (l.take 2)
      rw [List.length_take, Nat.min_eq_left (by omega)] at this
      exact this
    have d6 : (l.drop 2).drop 4 = l.drop 6 := by rw [List.drop_drop]
    rw [d6] at r2
    have ew : wrap64 ((numN (l.take 2) : Nat) : Int) = ((numN (l.take 2) : Nat) : Int) := by unfold wrap64; omega
    unfold codec_New.f codec_Reader_Rest.f
    rw [Option.bind_some]
    have r1' : codec_Reader_U16.f k (bs l) 0 = some (((numN (l.take 2) : Nat) : Int), bs (l.drop 2), 0) := r1
    have r2' : codec_Reader_U32.f k (bs (l.drop 2)) 0 = some (((numN ((l.drop 2).take 4) : Nat) : Int), bs (l.drop 6), 0) := r2
    rw [r1', Option.bind_some, r2', Option.bind_some, Option.bind_some]
    show (if wrap64 ((numN (l.take 2) : Nat) : Int) > 4096 then _ else _) = _
    rw [ew]
    by_cases c1 : 4096 < numN (l.take 2)
    · rw [if_pos (by omega), if_pos c1]; rfl
    · rw [if_neg (by omega), if_neg c1, bs_size]
      by_cases c2 : (l.drop 6).length < numN (l.take 2)
      · rw [if_pos (by omega), if_pos c2]; rfl
      · rw [if_neg (by omega), if_neg c2, if_pos (by decide), if_pos (by omega)]
        have e0 : (bs l).extract 0 2 = bs (l.take 2) := by rw [bs_extract, List.drop_zero]
        have e1 : (bs (l.drop 6)).extract 0 (((numN (l.take 2) : Nat) : Int)).toNat = bs ((l.drop 6).take (numN (l.take 2))) := by rw [Int.toNat_natCast, bs_extract, List.drop_zero]
        have sz2 : (bs (l.take 2)).size < k := by rw [bs_size, List.length_take]; omega
        have szn : (bs ((l.drop 6).take (numN (l.take 2)))).size < k := by rw [bs_size, List.length_take]; omega
        have z2 : (bs (l.take 2)).size < 9223372036854775807 := by rw [bs_size, List.length_take]; omega
        have zn : (bs ((l.drop 6).take (numN (l.take 2)))).size < 9223372036854775807 := by rw [bs_size, List.length_take]; omega
        rw [e0, sum_f _ z2 k sz2, Option.bind_some, if_pos (by omega), if_pos (by omega), e1, update_f _ (updN_lt 0 _ (by decide)) _ zn k szn, Option.bind_some]
        by_cases c3 : sumOf l (numN (l.take 2)) ≠ numN ((l.drop 2).take 4)
        · rw [if_neg (by intro h; exact c3 (Int.ofNat.inj h)), if_pos c3]; rfl
        · have c4 : updN (updN 0 (bs (l.take 2))) (bs ((l.drop 6).take (numN (l.take 2)))) = numN ((l.drop 2).take 4) := Decidable.not_not.1 c3
          rw [if_pos (by rw [c4]), if_neg c3]
          rw [show wrap64 (6 + ((numN (l.take 2) : Nat) : Int)) = ((6 + numN (l.take 2) : Nat) : Int) by unfold wrap64; omega]
/-! ### numbers back -/
def enc (xs : List Int) : List UInt8 := xs.map fun n => UInt8.ofNat n.toNat
theorem str_bs (xs : List Int) : strOfNums xs = bs (enc xs) := rfl
theorem enc_append (a b : List Int) : enc (a ++ b) = enc a ++ enc b := List.map_append
theorem enc_len (a : List Int) : (enc a).length = a.length := List.length_map _
theorem leN (n w : Nat) : Wr.leBytes (n : Int) (w + 1) = ((n % 256 : Nat) : Int) :: Wr.leBytes ((n / 256 : Nat) : Int) w := by
  unfold Wr.leBytes
  rw [List.range_succ_eq_map, List.map_cons, List.map_map]
  congr 1
  · unfold Wr.byteAt; simp
  · apply List.map_congr_left
    intro i _
    show Wr.byteAt (n : Int) (i + 1) = Wr.byteAt ((n / 256 : Nat) : Int) i
    unfold Wr.byteAt
    have : ((n / 256 : Nat) : Int) = (n : Int) / 256 := by omega
    rw [this, Int.ediv_ediv_of_nonneg (by decide)]
    have e : (256 : Int) * 2 ^ (8 * i) = 2 ^ (8 * (i + 1)) := by rw [Nat.mul_add, Int.pow_add, Int.mul_comm]; rfl
    rw [e]
theorem num_le (w : Nat) : ∀ n : Nat, n < 256 ^ w → numN (enc (Wr.leBytes (n : Int) w)) = n := by
  induction w with
  | zero => intro n h; simp [Wr.leBytes, enc, numN] at *; omega
  | succ w ih =>
    intro n h
    rw [leN]
    show (UInt8.ofNat ((n % 256 : Nat) : Int).toNat).toNat + 256 * numN (enc (Wr.leBytes ((n / 256 : Nat) : Int) w)) = n
    rw [ih (n / 256) (by rw [Nat.pow_succ] at h; omega), Int.toNat_natCast]
    have : (UInt8.ofNat (n % 256)).toNat = n % 256 := by simp
    rw [this]; omega
theorem le_num (l : List UInt8) : enc (Wr.leBytes ((numN l : Nat) : Int) l.length) = l := by
  induction l with
  | nil => rfl
  | cons b l ih =>
    have hb := b.toNat_lt
    rw [List.length_cons, leN]
    have e1 : numN (b :: l) % 256 = b.toNat := by simp only [numN]; omega
    have e2 : numN (b :: l) / 256 = numN l := by simp only [numN]; omega
    rw [e1, e2]
    show UInt8.ofNat ((b.toNat : Nat) : Int).toNat :: enc (Wr.leBytes ((numN l : Nat) : Int) l.length) = b :: l
    rw [ih, Int.toNat_natCast]
    congr 1
    simp
theorem enc_le_len (n : Int) (w : Nat) : (enc (Wr.leBytes n w)).length = w := by rw [enc_len, Wr.leBytes_len]
theorem g_enc (w : Nat) (n : Int) (h0 : 0 ≤ n) (h1 : n < ((256 ^ w : Nat) : Int)) (l : List UInt8) : g w (some (enc (Wr.leBytes n w) ++ l)) = (n, some l) := by
  obtain ⟨m, rfl⟩ := Int.eq_ofNat_of_zero_le h0
  have hl := enc_le_len (m : Int) w
  rw [g_yes w _ (by rw [List.length_append, hl]; omega), List.take_left' hl, List.drop_left' hl, num_le w m (by omega)]
theorem g_enc8 (n : Int) (h : 0 ≤ n ∧ n < 18446744073709551616) (l : List UInt8) : g 8 (some (enc (Wr.leBytes n 8) ++ l)) = (n, some l) := g_enc 8 n h.1 (by rw [show ((256 ^ 8 : Nat) : Int) = 18446744073709551616 from rfl]; exact h.2) l
theorem g_enc1 (n : Int) (h0 : 0 ≤ n) (h1 : n < 256) (l : List UInt8) : g 1 (some (enc (Wr.leBytes n 1) ++ l)) = (n, some l) := g_enc 1 n h0 (by rw [show ((256 ^ 1 : Nat) : Int) = 256 from rfl]; exact h1) l
theorem frame_list (a : List UInt8) : frameN (bs a) = bs (enc (headN (bs a)) ++ a) := by
  unfold frameN
  rw [str_bs, bs_append]
theorem next_frame (a : List UInt8) (ha : a.length ≤ 4096) : nextN (enc (headN (bs a)) ++ a) = (a, ((6 + a.length : Nat) : Int), 0) := by
  have hs : (bs a).size = a.length := bs_size a
  have h2 := updN_lt 0 (strOfNums (Wr.leBytes (a.length : Int) 2) ++ bs a) (by decide)
  have E : enc (headN (bs a)) ++ a = enc (Wr.leBytes (a.length : Int) 2) ++ (enc (Wr.leBytes ((updN 0 (strOfNums (Wr.leBytes (a.length : Int) 2) ++ bs a) : Nat) : Int) 4) ++ a) := by
    unfold headN
    rw [hs, enc_append, List.append_assoc]
  have l2 := enc_le_len (a.length : Int) 2
  have l4 := enc_le_len ((updN 0 (strOfNums (Wr.leBytes (a.length : Int) 2) ++ bs a) : Nat) : Int) 4
  have t2 : (enc (headN (bs a)) ++ a).take 2 = enc (Wr.leBytes (a.length : Int) 2) := by rw [E, List.take_left' l2]
  have d2 : (enc (headN (bs a)) ++ a).drop 2 = enc (Wr.leBytes ((updN 0 (strOfNums (Wr.leBytes (a.length : Int) 2) ++ bs a) : Nat) : Int) 4) ++ a := by rw [E, List.drop_left' l2]
  have d6 : (enc (headN (bs a)) ++ a).drop 6 = a := by
    rw [show 6 = 2 + 4 from rfl, ← List.drop_drop, d2, List.drop_left' l4]
  have len : (enc (headN (bs a)) ++ a).length = 6 + a.length := by rw [E, List.length_append, List.length_append, l2, l4]; omega
  have n2 : numN (enc (Wr.leBytes (a.length : Int) 2)) = a.length := num_le 2 a.length (by omega)
  have n4 : numN (enc (Wr.leBytes ((updN 0 (strOfNums (Wr.leBytes (a.length : Int) 2) ++ bs a) : Nat) : Int) 4)) = updN 0 (strOfNums (Wr.leBytes (a.length : Int) 2) ++ bs a) := num_le 4 _ (by omega)
  unfold nextN sumOf
  rw [len, t2, d2, d6, n2, List.take_left' l4, n4, List.take_length, updN_append, ← str_bs]
  rw [if_neg (by omega), if_neg (by omega), if_neg (by omega), if_neg (by simp)]
theorem next_inv (l : List UInt8) (h0 : (nextN l).2.2 = 0) (h1 : (nextN l).2.1 = (l.length : Int)) : (nextN l).1.length ≤ 4096 ∧ bs l = frameN (bs (nextN l).1) := by
  unfold nextN at h0 h1 ⊢
  by_cases c0 : l.length < 6
  · rw [if_pos c0] at h0; simp at h0
  · rw [if_neg c0] at h0 h1 ⊢
    by_cases c1 : 4096 < numN (l.take 2)
    · rw [if_pos c1] at h0; simp at h0
    · rw [if_neg c1] at h0 h1 ⊢
      by_cases c2 : (l.drop 6).length < numN (l.take 2)
      · rw [if_pos c2] at h0; simp at h0
      · rw [if_neg c2] at h0 h1 ⊢
        by_cases c3 : sumOf l (numN (l.take 2)) ≠ numN ((l.drop 2).take 4)
        · rw [if_pos c3] at h0; simp at h0
        · rw [if_neg c3] at h0 h1 ⊢
          have c4 := Decidable.not_not.1 c3
          dsimp only at h1 ⊢
          have hn : numN (l.take 2) = (l.drop 6).length := by rw [List.length_drop]; omega
          rw [hn] at c4 ⊢
          rw [List.take_length]
          refine ⟨by omega, ?_⟩
          unfold sumOf at c4
          rw [List.take_length, updN_append] at c4
          have hl2 : (l.take 2).length = 2 := by rw [List.length_take]; omega
          have hl4 : ((l.drop 2).take 4).length = 4 := by rw [List.length_take, List.length_drop]; omega
          have e2 := le_num (l.take 2)
          have e4 := le_num ((l.drop 2).take 4)
          rw [hl2, hn] at e2
          rw [hl4, ← c4] at e4
          rw [frame_list]
          unfold headN
          rw [bs_size, enc_append, str_bs, e2, e4, List.append_assoc]
          have d : (l.drop 2).take 4 ++ l.drop 6 = l.drop 2 := by
            have := List.take_append_drop 4 (l.drop 2)
            rwa [List.drop_drop] at this
          rw [d, List.take_append_drop]
end Go.Proofs.YtnhjhaphfdlkfaaDoor.SB
