/- crc.step: what it makes of a number and a byte, given that the table holds what the program's text lays. -/
import Derived.Test.YtbffgpfkgmhmhaaGreatDoorProg
import Derived.Test.YtbffgpfkgmhmhaaGreatDoorSMa
import Derived.WalkKit
import Derived.KernelRfl
import Derived.Deep.LoopGhost
import Derived.Lib.Hide
import Derived.IntWalk
import Derived.Test.YtbffgpfkgmhmhaaGreatDoorRows
import Derived.ProofKit
import Derived.OpenShut
import Derived.ChangeOld
import Derived.Below
import Derived.SizedLaws
import Derived.Handed
import Derived.LaidByTextLater
import Derived.Deep.RegionLaw
import Derived.OneCell
import Derived.Deep.Draws
import Derived.Deep.AppendLies
import Derived.Maps.AppendAt
import Derived.OwnWalk
import Derived.Laws.BytesArg
import Derived.Laws.MakeOwn
import Derived.Laws.OwnMore
import Derived.Deep.OwnRows
import Derived.Tactics
import Derived.Lib.ConvBytes
import Derived.Laws.Slices
import Derived.RowKit3
import Derived.Deep.QuietTactic
import Derived.BigQuiet
import Derived.WideLaws
import Derived.Deep.DeepCutAuto
import Derived.Deep.CutBlock
import Derived.Deep.RegionHeld3
import Derived.Laws.Rows
import Derived.Lib.AppendStr
import Derived.ArgAppend
import Derived.Laws.IdiomCopy
import Derived.OrdersHeld
import Derived.Laws.BitsLemmas
import Derived.RowKit
import Derived.Deep.SlicePairs
import Derived.Lib.SmallJoins
import Derived.Maps.Ext
import Derived.Sort.KeysCollected
import Derived.Lib.Bytealg
import Derived.Maps.OwnSet
import Derived.Laws.Cover3
import Derived.Shelf.SlIter.Nil
import Derived.Shelf.SlGeneric
import Derived.Shelf.SortM.Plain
import Derived.Shelf.SortM.SortNone
import Derived.Ground.GgzProg
import Derived.Ground.SlgmProg
import Derived.RangeFuncNested
import Derived.RangeFuncBound
import Derived.RangeFuncCalls
import Derived.RangeFuncLeaves
import Derived.Shelf.Abstract
import Derived.Shelf.RegionOpen
import Derived.OwnWalkIn
import Derived.TacticsInMore
import Derived.LoopNIn
import Derived.LoopIn
import Derived.Maps.OwnIn
set_option linter.unusedVariables false
namespace Go.Proofs.YtbffgpfkgmhmhaaGreatDoor.Crc
open Go.RowKit Go.Proofs.YtbffgpfkgmhmhaaGreatDoorW.PrintWords Go.Proofs.YtbffgpfkgmhmhaaGreatDoorW.PrintLast Go.Proofs.YtbffgpfkgmhmhaaGreatDoorW.PrintMore
/-- The table, as the program's text has it. -/
def tabL : List Int := [0, 498536548, 997073096, 651767980, 1994146192, 1802195444, 1303535960, 1342533948, 3988292384, 4027552580, 3604390888, 3412177804, 2607071920, 2262029012, 2685067896, 3183342108]
def tab (i : Int) : Int := tabL.getD i.toNat 0
/-- The table lies where the variable lies. -/
def Laid (w : World) : Prop := ∀ i, i < 16 → w.cell? ⟨0, i, none⟩ = some (.int .u32 (tabL.getD i 0))
theorem laid_lt {w : World} (h : Laid w) : 0 < w.heap.size := World.block_lt_of_cell? w ⟨0, 0, none⟩ (h 0 (by decide))
theorem laid_below {w w' : World} (h : Laid w) (hb : Below w.heap.size w w') : Laid w' := fun i hi => by
  have := hb.cell (p := ⟨0, i, none⟩) (laid_lt h)
  rw [this]; exact h i hi
theorem laid_drew {w : World} (h : Laid w) : Laid w.drew := fun i hi => h i hi
theorem laid_drewN {w : World} (h : Laid w) (n : Nat) : Laid (w.drewN n) := fun i hi => h i hi
theorem laid_alloc {w : World} (h : Laid w) (o : Obj) : Laid (w.alloc o) := laid_below h (below_alloc (Below.refl _ _) o)
theorem and15 (x : Int) : 0 ≤ Go.bits .and .u32 x 15 ∧ Go.bits .and .u32 x 15 < 16 := by
  have e : (BitVec.ofInt 32 (15 : Int)).toNat = 15 := by decide
  have h : (BitVec.ofInt 32 x &&& BitVec.ofInt 32 15).toNat < 16 := by
    rw [BitVec.toNat_and, e]
    exact Nat.and_lt_two_pow (n := 4) _ (by decide)
  show 0 ≤ IntKind.u32.wrap (((BitVec.ofInt 32 x &&& BitVec.ofInt 32 15).toNat : Nat) : Int) ∧ IntKind.u32.wrap (((BitVec.ofInt 32 x &&& BitVec.ofInt 32 15).toNat : Nat) : Int) < 16
  generalize (BitVec.ofInt 32 x &&& BitVec.ofInt 32 15).toNat = n at h
  rw [IntKind.wrap_u32]
  omega
/-- Half a step: by four bits. -/
def half (c : Int) : Int := Go.bits .xor .u32 (tab (Go.bits .and .u32 c 15)) (c / 16)
def stepI (c b : Int) : Int := half (half (Go.bits .xor .u32 c b))
theorem look (w : World) (h : Laid w) (i : Int) (h0 : 0 ≤ i) (h1 : i < 16) : w.cell? ⟨0, i.toNat, none⟩ = some (.int .u32 (tab i)) := h i.toNat (by omega)
set_option maxHeartbeats 1000000 in
set_option maxRecDepth 100000 in
theorem step_calls (c b : Int) (hb0 : 0 ≤ b) (hb1 : b < 256) (w : World) (HL : Laid w) :
    Calls Tryz.prog 120 #[.int .u32 c, .int .u8 b] w fun e w' => e = .returned (.int .u32 (stepI c b)) ∧ Drawn0 w w' := by
  obtain ⟨p0, p1⟩ := and15 (Go.bits .xor .u32 c b)
  obtain ⟨q0, q1⟩ := and15 (half (Go.bits .xor .u32 c b))
  have hp := look w HL _ p0 p1
  have hq := look w HL _ q0 q1
  have HL2 := Lib.hid HL
  clear HL
  unfold half at q0 q1 hq
  go_enter Tryz.func120, Tryz.ntmps120
  go_wp2
  go_ret
  exact ⟨rfl, Drawn0.refl _⟩
end Go.Proofs.YtbffgpfkgmhmhaaGreatDoor.Crc
/- What the row's premise on the table says of memory; a start in which it holds. -/
set_option linter.unusedVariables false
namespace Go.Proofs.YtbffgpfkgmhmhaaGreatDoor.LaidAt
open Go.ChangeShapes Go.WideShapes Go.ChangeAt Go.RowKit
theorem own : ownKnob Tryz.prog.godebug = none := by kernel_rfl
theorem named : Tryz.prog.globalNamed "hindcast/crc.steps" = some 0 := by kernel_rfl
theorem typed : (Tryz.prog.globals[0]?).map (·.type) = some 221 := by kernel_rfl
theorem under159 : Tryz.prog.underlying 221 = some (.array 16 107) := by kernel_rfl
theorem cells159 : Tryz.prog.cellsOf 221 = 16 := by kernel_rfl
theorem cells120 : Tryz.prog.cellsOf 107 = 1 := by kernel_rfl
theorem int_of_trod {H : Type} {enc : TypeId × Value → H} {P : Program} {w : World} {base : Nat} {sp : Nat → Bool} {held : Bool} {fuel : Nat} {t : TypeId} {k : IntKind} {c : Value} {y : DataW H × List MemPlace}
    (ht : P.underlying t = some (.int k)) (h : DataW.trod enc P w base sp held fuel t [c] = some y) : ∃ n, c = .int k n ∧ y = (.lit (.int k n), []) := by
  cases fuel with
  | zero => simp [DataW.trod] at h
  | succ fuel =>
    cases c <;> simp [DataW.trod, ht] at h
    rename_i k' n
    obtain ⟨⟨rfl, _⟩, rfl⟩ := h
    exact ⟨n, rfl, rfl⟩
theorem data_is {H : Type} : (Rows.laid_hindcast_crc_steps : DataW H) = .agg (Crc.tabL.map fun n => .lit (.int .u32 n)) := rfl
theorem laid_of {W : World} (h : laidMet Tryz.prog [("hindcast/crc.steps", Rows.laid_hindcast_crc_steps)] W) : Crc.Laid W := by
  obtain ⟨ps, ⟨g, t, cs, fuel, p, q, hg, ht, hvar, hd, _, _⟩, _⟩ := h
  obtain rfl := Option.some.inj (named.symm.trans hg)
  obtain rfl := Option.some.inj (typed.symm.trans ht)
  obtain ⟨xs, m, rfl, hx, hl, hn, hi⟩ := DataW.trod_array under159 hd
  rw [data_is] at hx
  simp only [Prod.mk.injEq, DataW.agg.injEq] at hx
  obtain ⟨hx, _⟩ := hx
  rw [cells159] at hl
  intro i h16
  have h1 := hi i h16
  rw [cells120, Nat.mul_one] at h1
  have hlt : i < cs.toList.length := by omega
  have ht1 : (cs.toList.drop i).take 1 = [cs.toList[i]] := by
    rw [List.drop_eq_getElem_cons hlt]; rfl
  rw [ht1] at h1
  have hxi : xs[i]? = some (xs[i]'(by omega)) := List.getElem?_eq_getElem (by omega)
  rw [hxi] at h1
  obtain ⟨n, hc, hy⟩ := int_of_trod (k := .u32) Tryz.underlying107 h1
  have e : ((Crc.tabL.map fun n => (DataW.lit (.int .u32 n) : DataW Unit)))[i]? = (xs.map (·.1))[i]? := by rw [hx]
  rw [List.getElem?_map, List.getElem?_map, hxi, hy] at e
  have htl : i < Crc.tabL.length := h16
  rw [List.getElem?_eq_getElem htl] at e
  simp at e
  have hv := World.var?_cell named hvar i
  rw [hv, ← Array.getElem?_toList, List.getElem?_eq_getElem hlt, hc, ← e, List.getD_eq_getElem?_getD, List.getElem?_eq_getElem htl]
  rfl
def tabCells : Array Value := (Crc.tabL.map fun n => Value.int .u32 n).toArray
/-- A start in which the table lies as the program's text has it. -/
noncomputable def laidWorld (os : Os) : World :=
  { World.holding Tryz.prog os ⟨#[], #[], []⟩ with heap := (World.holding Tryz.prog os ⟨#[], #[], []⟩).heap.modify 0 fun
      | .cells _ t frozen => .cells tabCells t frozen
      | o => o }
def XL : World → Array Value → Prop := fun w _ => laidMet Tryz.prog [("hindcast/crc.steps", Rows.laid_hindcast_crc_steps)] w
theorem XL_heap (w w' : World) (args : Array Value) (hh : w.heap = w'.heap) (h : XL w args) : XL w' args := laidMet.of_heap hh h
theorem row0 (os : Os) (args : Array Value) : ((laidWorld os).forCall (fun _ _ => 0) ⟨#[], args, []⟩).memory.heap[0]? = some (.cells tabCells 221 (0, 0)) := by kernel_rfl
set_option maxRecDepth 100000 in
theorem met (os : Os) (args : Array Value) : laidMet Tryz.prog [("hindcast/crc.steps", Rows.laid_hindcast_crc_steps)] ((laidWorld os).forCall (fun _ _ => 0) ⟨#[], args, []⟩).memory := by
  refine ⟨_, ⟨0, 221, tabCells, 8, [], [], by kernel_rfl, by kernel_rfl, by kernel_rfl, by kernel_rfl, rfl, rfl⟩, by decide, fun b off h => ?_⟩
  have h' : MemPlace.cell b off ∈ [MemPlace.cell 0 0, .cell 0 1, .cell 0 2, .cell 0 3, .cell 0 4, .cell 0 5, .cell 0 6, .cell 0 7, .cell 0 8, .cell 0 9, .cell 0 10, .cell 0 11, .cell 0 12, .cell 0 13, .cell 0 14, .cell 0 15] := h
  have hb : b = 0 := by
    simp at h'
    omega
  subst hb
  refine ⟨⟨_, _, row0 os args⟩, fun u v hc => ?_⟩
  simp only [World.cell?, row0 os args] at hc
  simp at h'
  rcases h' with rfl | rfl | rfl | rfl | rfl | rfl | rfl | rfl | rfl | rfl | rfl | rfl | rfl | rfl | rfl | rfl <;> simp [tabCells, Crc.tabL] at hc
end Go.Proofs.YtbffgpfkgmhmhaaGreatDoor.LaidAt
/- What codec's Writer holds, and what its calls make of it: the contracts of put, U8, U16, U32, U64, Bytes. -/
set_option linter.unusedVariables false
namespace Go.Proofs.YtbffgpfkgmhmhaaGreatDoor.Wr
open Go.RowKit Go.Proofs.YtbffgpfkgmhmhaaGreatDoorW.PrintWords Go.Proofs.YtbffgpfkgmhmhaaGreatDoorW.PrintLast Go.Proofs.YtbffgpfkgmhmhaaGreatDoorW.PrintMore
/-- A writer at block g, its row from base on. -/
def IsW (W : World) (base g : Nat) (v : Value) (xs : List Int) : Prop :=
  W.heap[g]? = some (.cells #[v] 85 (0, 0)) ∧ W.ownsRow base 5 1 v xs.length (nums .u8 xs) ∧ base ≤ g
/-- The blocks that a writer may write. -/
def Foot (g : Nat) (v : Value) (k : Nat) : Prop := k = g ∨ v.ownBlock = some k
/-- One byte of a number. -/
def byteAt (n : Int) (i : Nat) : Int := (n / 2 ^ (8 * i)) % 256
def leBytes (n : Int) (k : Nat) : List Int := (List.range k).map (byteAt n)
theorem leBytes_succ (n : Int) (k : Nat) : leBytes n (k + 1) = leBytes n k ++ [byteAt n k] := by unfold leBytes; rw [List.range_succ, List.map_append]; rfl
theorem leBytes_len (n : Int) (k : Nat) : (leBytes n k).length = k := by simp [leBytes]
/-- What a call of the writer leaves. -/
def Wrote (w w' : World) (base g : Nat) (v : Value) (xs : List Int) : Prop :=
  ∃ v', IsW w' base g v' xs ∧ Kept w w' (Foot g v) ∧ Below base w w' ∧ (v'.ownBlock = v.ownBlock ∨ ∃ b, v'.ownBlock = some b ∧ w.heap.size ≤ b)
theorem info5 : (Tryz.prog.info? 5).map (fun i => (i.zero, i.size, i.bytes)) = some (some (.int .u8 0), 1, 1) := by kernel_rfl
theorem own_lt {w : World} {base e n : Nat} {v : Value} {xs : List Value} (h : w.ownsRow base e 1 v n xs) {k : Nat} (hk : v.ownBlock = some k) : k < w.heap.size := by
  rcases h.2 with ⟨rfl, _⟩ | ⟨g, cap, cur, rfl, _, hb, _⟩
  · simp [Value.ownBlock] at hk
  · simp [Value.ownBlock] at hk
    subst hk
    exact blk_lt hb
/-- A writer that has just been made. -/
theorem isw_new (w : World) : IsW (w.alloc (.cells #[.slice none 0 0] 85)) w.heap.size w.heap.size (.slice none 0 0) [] :=
  ⟨heap_alloc_new w _, ⟨rfl, Or.inl ⟨rfl, rfl⟩⟩, Nat.le_refl _⟩
theorem isw_drewN {w : World} {base g : Nat} {v : Value} {xs : List Int} (h : IsW w base g v xs) (n : Nat) : IsW (w.drewN n) base g v xs := h
theorem str_size (xs : List Int) : (strOfNums xs).size = xs.length := by unfold strOfNums ByteArray.size; simp
theorem isw_lt {w : World} {base g : Nat} {v : Value} {xs : List Int} (h : IsW w base g v xs) : g < w.heap.size := blk_lt h.1
theorem isw_ne {w : World} {base g : Nat} {v : Value} {xs : List Int} (h : IsW w base g v xs) : v.ownBlock ≠ some g := by
  intro e
  rcases h.2.1.2 with ⟨rfl, _⟩ | ⟨b, cap, cur, rfl, _, hb, _⟩
  · simp [Value.ownBlock] at e
  · simp [Value.ownBlock] at e
    subst e
    rw [h.1] at hb
    simp at hb
theorem isw_cell {w : World} {base g : Nat} {v : Value} {xs : List Int} (h : IsW w base g v xs) : w.cell? ⟨g, 0, none⟩ = some v := (blk_cell h.1 0).trans rfl
/-- A writer whose field has been stored anew. -/
theorem isw_stored {w1 : World} {base g : Nat} {v v1 : Value} {ys : List Int} (hb : w1.heap[g]? = some (.cells #[v] 85 (0, 0))) (hown : w1.ownsRow base 5 1 v1 ys.length (nums .u8 ys)) (hn : v1.ownBlock ≠ some g) (hge : base ≤ g) :
    IsW (w1.setCell ⟨g, 0, none⟩ v1) base g v1 ys := by
  refine ⟨one_setCell hb, ⟨hown.1, ?_⟩, hge⟩
  rcases hown.2 with h | ⟨b, cap, cur, rfl, h1, h2, h3⟩
  · exact Or.inl h
  · refine Or.inr ⟨b, cap, cur, rfl, h1, ?_, h3⟩
    rw [heap_setCell_other _ _ _ _ (by intro e; apply hn; simp [Value.ownBlock]; exact e)]
    exact h2
theorem own_shape {w : World} {base e n : Nat} {v : Value} {xs : List Value} (h : w.ownsRow base e 1 v (n + 1) xs) : ∃ g cap, v = .slice (some ⟨g, 0, none⟩) (n + 1) cap := by
  rcases h.2 with ⟨_, h0⟩ | ⟨g, cap, cur, rfl, _⟩
  · omega
  · exact ⟨g, cap, rfl⟩
/-- One byte more: the writer's field still holds the elder slice; once the new one is stored, the writer has the byte. -/
theorem wrote_step {w wr w1 : World} {base g : Nat} {v0 v v1 : Value} {xs : List Int} {u : Int}
    (hW : IsW wr base g v xs) (hK : Kept w wr (Foot g v0)) (hB : Below base w wr) (hv : v.ownBlock = v0.ownBlock ∨ ∃ b, v.ownBlock = some b ∧ w.heap.size ≤ b)
    (hown : w1.ownsRow base 5 1 v1 (xs.length + 1) (nums .u8 xs ++ [.int .u8 u])) (hg : (wr.drew).grownBy w1 v.ownBlock) (hat : v1.ownBlock = v.ownBlock ∨ ∃ b, v1.ownBlock = some b ∧ wr.heap.size ≤ b) :
    w1.cell? ⟨g, 0, none⟩ = some v ∧ w1.frozen? ⟨g, 0, none⟩ = false ∧ Wrote w (w1.setCell ⟨g, 0, none⟩ v1) base g v0 (xs ++ [u]) := by
  have hlt := isw_lt hW
  have hne := isw_ne hW
  have hb : w1.heap[g]? = some (.cells #[v] 85 (0, 0)) := (hg.block g hlt (fun e => hne e.symm)).trans hW.1
  refine ⟨(blk_cell hb 0).trans rfl, blk_frozen hb 0, v1, isw_stored hb ?_ ?_ hW.2.2, ?_, ?_, ?_⟩
  · rw [List.length_append, show nums .u8 (xs ++ [u]) = nums .u8 xs ++ [.int .u8 u] by simp [nums]]; exact hown
  · intro e
    rcases hat with h | ⟨b, h, hle⟩
    · exact hne (h.symm.trans e)
    · rw [e] at h; cases h; omega
  · refine Kept.setCell (Kept.of_grown (W := wr.drew) hg hK ?_) (Or.inl (Or.inl rfl)) v1
    intro k hk
    rcases hv with h | ⟨b, h, hle⟩
    · exact Or.inl (Or.inr (h.symm.trans hk))
    · rw [h] at hk; cases hk; exact Or.inr hle
  · refine ((hB.drew).grown hg (Nat.le_trans hW.2.2 (Nat.le_of_lt hlt)) (fun k hk => ?_)).setCell hW.2.2 v1
    rcases hW.2.1.2 with ⟨rfl, _⟩ | ⟨b, cap, cur, rfl, hge, _⟩
    · simp [Value.ownBlock] at hk
    · simp [Value.ownBlock] at hk; omega
  · rcases hat with h | ⟨b, h, hle⟩
    · rw [h]; exact hv
    · exact Or.inr ⟨b, h, Nat.le_trans hK.1 hle⟩
theorem alloc_drew (w : World) (o : Obj) : (w.alloc o).drew = w.drew.alloc o := rfl
theorem isw_alloc {w : World} {base g : Nat} {v : Value} {xs : List Int} (h : IsW w base g v xs) (o : Obj) : IsW (w.alloc o) base g v xs := by
  refine ⟨(Below.heap_alloc w o g (isw_lt h)).trans h.1, ⟨h.2.1.1, ?_⟩, h.2.2⟩
  rcases h.2.1.2 with h1 | ⟨b, cap, cur, rfl, h1, h2, h3⟩
  · exact Or.inl h1
  · exact Or.inr ⟨b, cap, cur, rfl, h1, (Below.heap_alloc w o b (blk_lt h2)).trans h2, h3⟩
/-- A block that was made behind the writer's own is as it was. -/
theorem kept_new {w w' : World} {base g : Nat} {v : Value} {xs : List Int} (h : IsW w base g v xs) (o : Obj) (hk : Kept (w.alloc o) w' (Foot g v)) : w'.heap[w.heap.size]? = some o := by
  refine (hk.2 _ (by simp) (fun hf => ?_)).trans (heap_alloc_new w o)
  rcases hf with hf | hf
  · have := isw_lt h; omega
  · have := own_lt h.2.1 hf; omega
set_option maxHeartbeats 1000000 in
set_option maxRecDepth 100000 in
theorem put64 (n : Int) (h0 : 0 ≤ n) (h1 : n < 18446744073709551616) (base g : Nat) (v : Value) (xs : List Int) (w : World) (hW : IsW w base g v xs) (hl : xs.length ≤ 1000000) :
    Calls Tryz.prog 85 #[.pointer (some ⟨g, 0, none⟩), .int .u64 n, .int .i64 8] w fun e w' => e = .returned (.tuple #[]) ∧ Wrote w w' base g v (xs ++ leBytes n 8) := by
  have HW := Lib.hid hW
  clear hW
  go_enter Tryz.func85, Tryz.ntmps85
  go_wp2
  go_loopw [6, 10] (fun _ i wr => ∃ k : Nat, k ≤ 8 ∧ i = .int .i64 k ∧ Wrote w wr base g v (xs ++ leBytes n k)) (fun _ i _ => 8 - (intOf i).toNat)
  case atStart => exact ⟨0, by omega, rfl, v, by simpa [leBytes] using HW.out, Kept.refl _ _, Below.refl _ _, Or.inl rfl⟩
  case round =>
    obtain ⟨k, hk, rfl, v2, hW2, hK2, hB2, hv2⟩ := hrel
    by_cases hlt : k < 8
    · have hc := isw_cell hW2
      have hg := isw_lt hW2
      have HW2 := Lib.hid hW2
      have HK2 := Lib.hid hK2
      have HV2 := Lib.hid hv2
      have HB2 := Lib.hid hB2
      clear hW2 hK2 hv2 hB2
      have hs8 : Op.shift BinOp.shr IntKind.u64 n IntKind.i64 (IntKind.i64.wrap (8 * (k : Int))) = pure (.int .u64 (n / 2 ^ (8 * k))) := by
        rw [IntWalk.i64_in _ (by omega), shift_shr _ _ _ _ (by omega) (by show 8 * (k : Int) ≤ 64; omega)]
        rw [show (8 * (k : Int)).toNat = 8 * k by omega]
      have hbase : base ≤ wr.heap.size := Nat.le_trans HW2.out.2.2 (Nat.le_of_lt hg)
      have HL := Lib.hid (show ((xs ++ leBytes n k).length + 1) * 1 ≤ 140737488355328 by rw [List.length_append, leBytes_len]; omega)
      go_wp2
      go_region_law (rw [alloc_drew]; refine step_append_cells (w0 := wr.drew) base (by rfl) (.tmp 17) (.tmp 23) 83 5 (.int .u8 0) 1 1 (by rfl) Tryz.underlying83 info5 rfl (by decide) (by decide) v2 (xs ++ leBytes n k).length (nums .u8 (xs ++ leBytes n k)) [.int .u8 (IntKind.u8.wrap (n / 2 ^ (8 * k)))] (by simp [Act.eval]) (by simp [Act.eval]) rfl (by intro u hu; simp at hu; subst hu; rfl) (by exact HW2.out.2.1) (Below.refl _ _) (by exact hbase) HL.out ?_; intro v1 w1 hown1 _ hg1 hat1; obtain ⟨g1, cap1, rfl⟩ := own_shape hown1; have HW1 := Lib.hid (wrote_step HW2.out HK2.out HB2.out HV2.out hown1 hg1 hat1); have hc1 := HW1.out.1; have hf1 := HW1.out.2.1; clear hown1 hg1 hat1)
      go_wp2
      all_goals
        have HW9 := HW1.out.2.2
        clear hc1 hf1
        rw [IntKind.wrap_u8] at HW9
        refine ⟨⟨k + 1, by omega, by go_num, ?_⟩, by simp [intOf]; omega⟩
        rw [leBytes_succ, ← List.append_assoc]
        rw [List.length_append] at HW9
        exact HW9
    · go_wp2
      go_end0
      have hk8 : k = 8 := by omega
      subst hk8
      exact ⟨rfl, v2, hW2, hK2, hB2, hv2⟩
set_option maxHeartbeats 1000000 in
set_option maxRecDepth 100000 in
theorem put8 (n : Int) (h0 : 0 ≤ n) (h1 : n < 256) (base g : Nat) (v : Value) (xs : List Int) (w : World) (hW : IsW w base g v xs) (hl : xs.length ≤ 1000000) :
    Calls Tryz.prog 86 #[.pointer (some ⟨g, 0, none⟩), .int .u8 n, .int .i64 1] w fun e w' => e = .returned (.tuple #[]) ∧ Wrote w w' base g v (xs ++ leBytes n 1) := by
  have HW := Lib.hid hW
  clear hW
  go_enter Tryz.func86, Tryz.ntmps86
  go_wp2
  go_loopw [6, 10] (fun _ i wr => ∃ k : Nat, k ≤ 1 ∧ i = .int .i64 k ∧ Wrote w wr base g v (xs ++ leBytes n k)) (fun _ i _ => 1 - (intOf i).toNat)
  case atStart => exact ⟨0, by omega, rfl, v, by simpa [leBytes] using HW.out, Kept.refl _ _, Below.refl _ _, Or.inl rfl⟩
  case round =>
    obtain ⟨k, hk, rfl, v2, hW2, hK2, hB2, hv2⟩ := hrel
    by_cases hlt : k < 1
    · have hc := isw_cell hW2
      have hg := isw_lt hW2
      have HW2 := Lib.hid hW2
      have HK2 := Lib.hid hK2
      have HV2 := Lib.hid hv2
      have HB2 := Lib.hid hB2
      clear hW2 hK2 hv2 hB2
      have hs8 : Op.shift BinOp.shr IntKind.u64 (IntKind.u64.wrap n) IntKind.i64 (IntKind.i64.wrap (8 * (k : Int))) = pure (.int .u64 (n / 2 ^ (8 * k))) := by
        rw [IntWalk.u64_in n ⟨h0, by omega⟩, IntWalk.i64_in _ (by omega), shift_shr _ _ _ _ (by omega) (by show 8 * (k : Int) ≤ 64; omega)]
        rw [show (8 * (k : Int)).toNat = 8 * k by omega]
      have hbase : base ≤ wr.heap.size := Nat.le_trans HW2.out.2.2 (Nat.le_of_lt hg)
      have HL := Lib.hid (show ((xs ++ leBytes n k).length + 1) * 1 ≤ 140737488355328 by rw [List.length_append, leBytes_len]; omega)
      go_wp2
      go_region_law (rw [alloc_drew]; refine step_append_cells (w0 := wr.drew) base (by rfl) (.tmp 17) (.tmp 24) 83 5 (.int .u8 0) 1 1 (by rfl) Tryz.underlying83 info5 rfl (by decide) (by decide) v2 (xs ++ leBytes n k).length (nums .u8 (xs ++ leBytes n k)) [.int .u8 (IntKind.u8.wrap (n / 2 ^ (8 * k)))] (by simp [Act.eval]) (by simp [Act.eval]) rfl (by intro u hu; simp at hu; subst hu; rfl) (by exact HW2.out.2.1) (Below.refl _ _) (by exact hbase) HL.out ?_; intro v1 w1 hown1 _ hg1 hat1; obtain ⟨g1, cap1, rfl⟩ := own_shape hown1; have HW1 := Lib.hid (wrote_step HW2.out HK2.out HB2.out HV2.out hown1 hg1 hat1); have hc1 := HW1.out.1; have hf1 := HW1.out.2.1; clear hown1 hg1 hat1)
      go_wp2
      all_goals
        have HW9 := HW1.out.2.2
        clear hc1 hf1
        rw [IntKind.wrap_u8] at HW9
        refine ⟨⟨k + 1, by omega, by go_num, ?_⟩, by simp [intOf]; omega⟩
        rw [leBytes_succ, ← List.append_assoc]
        rw [List.length_append] at HW9
        exact HW9
    · go_wp2
      go_end0
      have hk8 : k = 1 := by omega
      subst hk8
      exact ⟨rfl, v2, hW2, hK2, hB2, hv2⟩
set_option maxHeartbeats 1000000 in
set_option maxRecDepth 100000 in
theorem put16 (n : Int) (h0 : 0 ≤ n) (h1 : n < 65536) (base g : Nat) (v : Value) (xs : List Int) (w : World) (hW : IsW w base g v xs) (hl : xs.length ≤ 1000000) :
    Calls Tryz.prog 118 #[.pointer (some ⟨g, 0, none⟩), .int .u16 n, .int .i64 2] w fun e w' => e = .returned (.tuple #[]) ∧ Wrote w w' base g v (xs ++ leBytes n 2) := by
  have HW := Lib.hid hW
  clear hW
  go_enter Tryz.func118, Tryz.ntmps118
  go_wp2
  go_loopw [6, 10] (fun _ i wr => ∃ k : Nat, k ≤ 2 ∧ i = .int .i64 k ∧ Wrote w wr base g v (xs ++ leBytes n k)) (fun _ i _ => 2 - (intOf i).toNat)
  case atStart => exact ⟨0, by omega, rfl, v, by simpa [leBytes] using HW.out, Kept.refl _ _, Below.refl _ _, Or.inl rfl⟩
  case round =>
    obtain ⟨k, hk, rfl, v2, hW2, hK2, hB2, hv2⟩ := hrel
    by_cases hlt : k < 2
    · have hc := isw_cell hW2
      have hg := isw_lt hW2
      have HW2 := Lib.hid hW2
      have HK2 := Lib.hid hK2
      have HV2 := Lib.hid hv2
      have HB2 := Lib.hid hB2
      clear hW2 hK2 hv2 hB2
      have hs8 : Op.shift BinOp.shr IntKind.u64 (IntKind.u64.wrap n) IntKind.i64 (IntKind.i64.wrap (8 * (k : Int))) = pure (.int .u64 (n / 2 ^ (8 * k))) := by
        rw [IntWalk.u64_in n ⟨h0, by omega⟩, IntWalk.i64_in _ (by omega), shift_shr _ _ _ _ (by omega) (by show 8 * (k : Int) ≤ 64; omega)]
        rw [show (8 * (k : Int)).toNat = 8 * k by omega]
      have hbase : base ≤ wr.heap.size := Nat.le_trans HW2.out.2.2 (Nat.le_of_lt hg)
      have HL := Lib.hid (show ((xs ++ leBytes n k).length + 1) * 1 ≤ 140737488355328 by rw [List.length_append, leBytes_len]; omega)
      go_wp2
      go_region_law (rw [alloc_drew]; refine step_append_cells (w0 := wr.drew) base (by rfl) (.tmp 17) (.tmp 24) 83 5 (.int .u8 0) 1 1 (by rfl) Tryz.underlying83 info5 rfl (by decide) (by decide) v2 (xs ++ leBytes n k).length (nums .u8 (xs ++ leBytes n k)) [.int .u8 (IntKind.u8.wrap (n / 2 ^ (8 * k)))] (by simp [Act.eval]) (by simp [Act.eval]) rfl (by intro u hu; simp at hu; subst hu; rfl) (by exact HW2.out.2.1) (Below.refl _ _) (by exact hbase) HL.out ?_; intro v1 w1 hown1 _ hg1 hat1; obtain ⟨g1, cap1, rfl⟩ := own_shape hown1; have HW1 := Lib.hid (wrote_step HW2.out HK2.out HB2.out HV2.out hown1 hg1 hat1); have hc1 := HW1.out.1; have hf1 := HW1.out.2.1; clear hown1 hg1 hat1)
      go_wp2
      all_goals
        have HW9 := HW1.out.2.2
        clear hc1 hf1
        rw [IntKind.wrap_u8] at HW9
        refine ⟨⟨k + 1, by omega, by go_num, ?_⟩, by simp [intOf]; omega⟩
        rw [leBytes_succ, ← List.append_assoc]
        rw [List.length_append] at HW9
        exact HW9
    · go_wp2
      go_end0
      have hk8 : k = 2 := by omega
      subst hk8
      exact ⟨rfl, v2, hW2, hK2, hB2, hv2⟩
set_option maxHeartbeats 1000000 in
set_option maxRecDepth 100000 in
theorem put32 (n : Int) (h0 : 0 ≤ n) (h1 : n < 4294967296) (base g : Nat) (v : Value) (xs : List Int) (w : World) (hW : IsW w base g v xs) (hl : xs.length ≤ 1000000) :
    Calls Tryz.prog 119 #[.pointer (some ⟨g, 0, none⟩), .int .u32 n, .int .i64 4] w fun e w' => e = .returned (.tuple #[]) ∧ Wrote w w' base g v (xs ++ leBytes n 4) := by
  have HW := Lib.hid hW
  clear hW
  go_enter Tryz.func119, Tryz.ntmps119
  go_wp2
  go_loopw [6, 10] (fun _ i wr => ∃ k : Nat, k ≤ 4 ∧ i = .int .i64 k ∧ Wrote w wr base g v (xs ++ leBytes n k)) (fun _ i _ => 4 - (intOf i).toNat)
  case atStart => exact ⟨0, by omega, rfl, v, by simpa [leBytes] using HW.out, Kept.refl _ _, Below.refl _ _, Or.inl rfl⟩
  case round =>
    obtain ⟨k, hk, rfl, v2, hW2, hK2, hB2, hv2⟩ := hrel
    by_cases hlt : k < 4
    · have hc := isw_cell hW2
      have hg := isw_lt hW2
      have HW2 := Lib.hid hW2
      have HK2 := Lib.hid hK2
      have HV2 := Lib.hid hv2
      have HB2 := Lib.hid hB2
      clear hW2 hK2 hv2 hB2
      have hs8 : Op.shift BinOp.shr IntKind.u64 (IntKind.u64.wrap n) IntKind.i64 (IntKind.i64.wrap (8 * (k : Int))) = pure (.int .u64 (n / 2 ^ (8 * k))) := by
        rw [IntWalk.u64_in n ⟨h0, by omega⟩, IntWalk.i64_in _ (by omega), shift_shr _ _ _ _ (by omega) (by show 8 * (k : Int) ≤ 64; omega)]
        rw [show (8 * (k : Int)).toNat = 8 * k by omega]
      have hbase : base ≤ wr.heap.size := Nat.le_trans HW2.out.2.2 (Nat.le_of_lt hg)
      have HL := Lib.hid (show ((xs ++ leBytes n k).length + 1) * 1 ≤ 140737488355328 by rw [List.length_append, leBytes_len]; omega)
      go_wp2
      go_region_law (rw [alloc_drew]; refine step_append_cells (w0 := wr.drew) base (by rfl) (.tmp 17) (.tmp 24) 83 5 (.int .u8 0) 1 1 (by rfl) Tryz.underlying83 info5 rfl (by decide) (by decide) v2 (xs ++ leBytes n k).length (nums .u8 (xs ++ leBytes n k)) [.int .u8 (IntKind.u8.wrap (n / 2 ^ (8 * k)))] (by simp [Act.eval]) (by simp [Act.eval]) rfl (by intro u hu; simp at hu; subst hu; rfl) (by exact HW2.out.2.1) (Below.refl _ _) (by exact hbase) HL.out ?_; intro v1 w1 hown1 _ hg1 hat1; obtain ⟨g1, cap1, rfl⟩ := own_shape hown1; have HW1 := Lib.hid (wrote_step HW2.out HK2.out HB2.out HV2.out hown1 hg1 hat1); have hc1 := HW1.out.1; have hf1 := HW1.out.2.1; clear hown1 hg1 hat1)
      go_wp2
      all_goals
        have HW9 := HW1.out.2.2
        clear hc1 hf1
        rw [IntKind.wrap_u8] at HW9
        refine ⟨⟨k + 1, by omega, by go_num, ?_⟩, by simp [intOf]; omega⟩
        rw [leBytes_succ, ← List.append_assoc]
        rw [List.length_append] at HW9
        exact HW9
    · go_wp2
      go_end0
      have hk8 : k = 4 := by omega
      subst hk8
      exact ⟨rfl, v2, hW2, hK2, hB2, hv2⟩
set_option maxHeartbeats 1000000 in
set_option maxRecDepth 100000 in
theorem wBytes (base g : Nat) (v : Value) (xs : List Int) (w : World) (hW : IsW w base g v xs) (hl : xs.length ≤ 1000000) :
    Calls Tryz.prog 39 #[.pointer (some ⟨g, 0, none⟩)] w fun e w' => e = .returned (.string (strOfNums xs)) ∧ Drawn0 w w' := by
  have hc := isw_cell hW
  have hcv := own_string (P := Tryz.prog) Tryz.underlying83 Tryz.underlying5 Tryz.underlying9 hW.2.1
  have HW := Lib.hid hW
  clear hW
  go_enter Tryz.func39, Tryz.ntmps39
  go_wp2
  go_ret
  exact ⟨rfl, Drawn0.refl _⟩
set_option maxHeartbeats 1000000 in
set_option maxRecDepth 100000 in
theorem wU64 (n : Int) (h0 : 0 ≤ n) (h1 : n < 18446744073709551616) (base g : Nat) (v : Value) (xs : List Int) (w : World) (hW : IsW w base g v xs) (hl : xs.length ≤ 1000000) :
    Calls Tryz.prog 37 #[.pointer (some ⟨g, 0, none⟩), .int .u64 n] w fun e w' => e = .returned (.tuple #[]) ∧ Wrote w w' base g v (xs ++ leBytes n 8) := by
  have HW := Lib.hid hW
  clear hW
  go_enter Tryz.func37, Tryz.ntmps37
  go_wp2_with fail
  refine (put64 n h0 h1 base g v xs _ HW.out hl).mono ?_
  rintro e w1 ⟨rfl, hw⟩
  have HQ := Lib.hid hw
  clear hw
  go_wp2
  go_end0
  exact ⟨rfl, HQ.out⟩
set_option maxHeartbeats 1000000 in
set_option maxRecDepth 100000 in
theorem wU8 (n : Int) (h0 : 0 ≤ n) (h1 : n < 256) (base g : Nat) (v : Value) (xs : List Int) (w : World) (hW : IsW w base g v xs) (hl : xs.length ≤ 1000000) :
    Calls Tryz.prog 38 #[.pointer (some ⟨g, 0, none⟩), .int .u8 n] w fun e w' => e = .returned (.tuple #[]) ∧ Wrote w w' base g v (xs ++ leBytes n 1) := by
  have HW := Lib.hid hW
  clear hW
  go_enter Tryz.func38, Tryz.ntmps38
  go_wp2_with fail
  refine (put8 n h0 h1 base g v xs _ HW.out hl).mono ?_
  rintro e w1 ⟨rfl, hw⟩
  have HQ := Lib.hid hw
  clear hw
  go_wp2
  go_end0
  exact ⟨rfl, HQ.out⟩
set_option maxHeartbeats 1000000 in
set_option maxRecDepth 100000 in
theorem wU16 (n : Int) (h0 : 0 ≤ n) (h1 : n < 65536) (base g : Nat) (v : Value) (xs : List Int) (w : World) (hW : IsW w base g v xs) (hl : xs.length ≤ 1000000) :
    Calls Tryz.prog 79 #[.pointer (some ⟨g, 0, none⟩), .int .u16 n] w fun e w' => e = .returned (.tuple #[]) ∧ Wrote w w' base g v (xs ++ leBytes n 2) := by
  have HW := Lib.hid hW
  clear hW
  go_enter Tryz.func79, Tryz.ntmps79
  go_wp2_with fail
  refine (put16 n h0 h1 base g v xs _ HW.out hl).mono ?_
  rintro e w1 ⟨rfl, hw⟩
  have HQ := Lib.hid hw
  clear hw
  go_wp2
  go_end0
  exact ⟨rfl, HQ.out⟩
set_option maxHeartbeats 1000000 in
set_option maxRecDepth 100000 in
theorem wU32 (n : Int) (h0 : 0 ≤ n) (h1 : n < 4294967296) (base g : Nat) (v : Value) (xs : List Int) (w : World) (hW : IsW w base g v xs) (hl : xs.length ≤ 1000000) :
    Calls Tryz.prog 80 #[.pointer (some ⟨g, 0, none⟩), .int .u32 n] w fun e w' => e = .returned (.tuple #[]) ∧ Wrote w w' base g v (xs ++ leBytes n 4) := by
  have HW := Lib.hid hW
  clear hW
  go_enter Tryz.func80, Tryz.ntmps80
  go_wp2_with fail
  refine (put32 n h0 h1 base g v xs _ HW.out hl).mono ?_
  rintro e w1 ⟨rfl, hw⟩
  have HQ := Lib.hid hw
  clear hw
  go_wp2
  go_end0
  exact ⟨rfl, HQ.out⟩
end Go.Proofs.YtbffgpfkgmhmhaaGreatDoor.Wr
-- out of the translation's print, by a program and by hand (wip/tools/hp.py)
namespace Go.Proofs.YtbffgpfkgmhmhaaGreatDoor.HM
open Go.RowKit Go.Proofs.YtbffgpfkgmhmhaaGreatDoorW.PrintWords Go.Proofs.YtbffgpfkgmhmhaaGreatDoorW.PrintLast Go.Proofs.YtbffgpfkgmhmhaaGreatDoorW.PrintMore
attribute [local go_sem] max2_int min2_int max_two min_two max_three min_three max_four min_four   -- for this text's walks alone
set_option linter.unusedVariables false
set_option linter.unusedSimpArgs false
def errW : Option Int → Value
  | none => .nilIface
  | some c => .iface 0 (.int .i64 c)
theorem errW_none : errW none = .nilIface := rfl
theorem errW_some (c : Int) : errW (some c) = .iface 0 (.int .i64 c) := rfl
theorem info22 : (Tryz.prog.info? 22).map (fun i => (i.zero, i.size, i.bytes)) = some (some (.int .u64 0), 1, 8) := by kernel_rfl
theorem info29 : (Tryz.prog.info? 29).map (fun i => (i.zero, i.size, i.bytes)) = some (some (.agg #[(.int .u64 0), (.int .u64 0)]), 2, 16) := by kernel_rfl
-- the values' own types
/-! #### struct type 29 -/
structure S29 where
  f0 : Int
  f1 : Int
def z29 : S29 := ⟨(0 : Int), (0 : Int)⟩
def k29 : Kd S29 := Kd.iso (Kd.pair (Kd.int .u64) (Kd.int .u64)) (fun x : S29 => (x.f0, x.f1))
theorem k29_open {w : World} {x : S29} {cs : List Value} (h : k29.K w x cs) : cs = [.int .u64 x.f0, .int .u64 x.f1] := by
  obtain ⟨_, _, rfl, rfl, rfl⟩ := h
  exact rfl
theorem k29_mk (w : World) (x : S29)  : k29.K w x [.int .u64 x.f0, .int .u64 x.f1] := ⟨[.int .u64 x.f0], [.int .u64 x.f1], rfl, rfl, rfl⟩
theorem k29_mkM (w : World) (base : Nat) (ok : Nat → Prop) (x : S29)  : k29.M w base ok x [.int .u64 x.f0, .int .u64 x.f1] := ⟨[.int .u64 x.f0], [.int .u64 x.f1], rfl, rfl, rfl⟩
def rd_T29 (xs : List S29) (i : Int) : S29 := xs.getD i.toNat z29
theorem at_T29 {w : World} {A : Option Addr} {n : Nat} {xs : List S29} (h : Kd.C k29 w A n xs) (i : Int) (h0 : 0 ≤ i) (h1 : i < n) : ∃ ad , A = some ad ∧ w.cell? (ad.add (i.toNat * 2)) = some (.int .u64 (rd_T29 xs i).f0) ∧ w.cell? ⟨(ad.add (i.toNat * 2)).block, (ad.add (i.toNat * 2)).off + 1, none⟩ = some (.int .u64 (rd_T29 xs i).f1) := by
  obtain ⟨ad, c, e, _, hK, hc0⟩ := Kd.C_get h z29 i h0 h1
  have hc : ∀ j u, c[j]? = some u → w.cell? (ad.add (i.toNat * 2 + j)) = some u := hc0
  obtain rfl := k29_open hK
  exact ⟨ad, e, hc 0 _ rfl, by rw [← add_field _ _ 1 (by omega)]; exact hc 1 _ rfl⟩
end Go.Proofs.YtbffgpfkgmhmhaaGreatDoor.HM
/- A manifest that came in, opened: its fields, its two slices as lists. -/
set_option linter.unusedVariables false
namespace Go.Proofs.YtbffgpfkgmhmhaaGreatDoor.LaidAt
open Go.ChangeShapes Go.WideShapes Go.ChangeAt Go.RowKit Go.Proofs.YtbffgpfkgmhmhaaGreatDoor.HM Go.Proofs.YtbffgpfkgmhmhaaGreatDoorW.PrintWords Go.Proofs.YtbffgpfkgmhmhaaGreatDoorW.PrintLast Go.Proofs.YtbffgpfkgmhmhaaGreatDoorW.PrintMore
section
variable {H : Type} {enc : TypeId × Value → H} {w : World} {base : Nat} {sp : Nat → Bool} {held : Bool}
end
end Go.Proofs.YtbffgpfkgmhmhaaGreatDoor.LaidAt
/- The words and the library that the texts over this seat build on. -/
/- The disk in plain words: files sorted by their names; the map's datum; no program in sight. -/
set_option linter.unusedVariables false
set_option linter.unusedSimpArgs false
namespace Go.Proofs.Dk
open Go Go.RowKit Go.Maps Go.Sort
abbrev Tx := List UInt8
/-- A file: its bytes, and how many are synced. -/
structure Fl where
  b : Tx
  s : Nat
section
variable {α β : Type}
abbrev before (a b : Tx) : Bool := bytesBefore a b
/-- Where a name leads. -/
def get (l : List (Tx × α)) (k : Tx) : Option α := (l.find? fun p => p.1 == k).map (·.2)
/-- A row goes in at its place. -/
def ins (x : Tx × α) : List (Tx × α) → List (Tx × α)
  | [] => [x]
  | y :: r => if before x.1 y.1 then x :: y :: r else y :: ins x r
/-- A name goes. -/
def del (l : List (Tx × α)) (k : Tx) : List (Tx × α) := l.filter fun p => !(p.1 == k)
/-- A name comes, or leads elsewhere. -/
def put (l : List (Tx × α)) (k : Tx) (v : α) : List (Tx × α) := ins (k, v) (del l k)
/-- What a name leads to turns. -/
def upd (l : List (Tx × α)) (k : Tx) (f : α → α) : List (Tx × α) := l.map fun p => if p.1 == k then (p.1, f p.2) else p
/-- The values alone turn. -/
def vals (g : α → β) (l : List (Tx × α)) : List (Tx × β) := l.map fun p => (p.1, g p.2)
/-- Sorted by names, none twice. -/
def Sorted (l : List (Tx × α)) : Prop := l.Pairwise fun p q => before p.1 q.1 = true
theorem before_lt : ∀ (a b : Tx), before a b = true ↔ a < b
  | [], [] => by simp [before, bytesBefore]
  | [], _ :: _ => by simp [before, bytesBefore]
  | _ :: _, [] => by simp [before, bytesBefore]
  | x :: r, y :: s => by
    have := before_lt r s
    simp only [before] at this
    simp only [before, bytesBefore, Bool.or_eq_true, Bool.and_eq_true, decide_eq_true_eq, beq_iff_eq, this, List.cons_lt_cons_iff]
theorem before_irrefl (a : Tx) : before a a = false := by
  cases h : before a a with
  | false => rfl
  | true => exact absurd ((before_lt a a).1 h) (List.lt_irrefl a)
theorem before_ne {a b : Tx} (h : before a b = true) : a ≠ b := fun e => by subst e; rw [before_irrefl] at h; cases h
theorem before_trans {a b c : Tx} (h : before a b = true) (k : before b c = true) : before a c = true :=
  (before_lt a c).2 (List.lt_trans ((before_lt a b).1 h) ((before_lt b c).1 k))
theorem before_or {a b : Tx} (h : before a b = false) (hne : a ≠ b) : before b a = true := by
  refine (before_lt b a).2 ?_
  have h1 : ¬ a < b := fun e => by rw [(before_lt a b).2 e] at h; cases h
  have h2 : b ≤ a := List.not_lt.1 h1
  rcases List.le_iff_lt_or_eq.1 h2 with h3 | h3
  · exact h3
  · exact absurd h3.symm hne
theorem vals_ins (g : α → β) (x : Tx × α) : ∀ l, vals g (ins x l) = ins (x.1, g x.2) (vals g l)
  | [] => rfl
  | y :: r => by
    unfold ins
    by_cases h : before x.1 y.1 = true
    · simp [h, vals, ins]
    · simp only [h, vals, List.map_cons, ins, Bool.false_eq_true, ↓reduceIte]
      congr 1
      exact vals_ins g x r
theorem vals_del (g : α → β) (l : List (Tx × α)) (k : Tx) : vals g (del l k) = del (vals g l) k := by
  simp only [vals, del, List.filter_map]
  rfl
theorem vals_put (g : α → β) (l : List (Tx × α)) (k : Tx) (v : α) : vals g (put l k v) = put (vals g l) k (g v) := by
  rw [put, vals_ins, vals_del]; rfl
theorem vals_get (g : α → β) (l : List (Tx × α)) (k : Tx) : get (vals g l) k = (get l k).map g := by
  simp only [get, vals, List.find?_map, Option.map_map]
  rfl
theorem vals_keys (g : α → β) (l : List (Tx × α)) : (vals g l).map (·.1) = l.map (·.1) := by simp [vals]
theorem vals_len (g : α → β) (l : List (Tx × α)) : (vals g l).length = l.length := by simp [vals]
theorem mem_ins (x : Tx × α) : ∀ (l : List (Tx × α)) (p : Tx × α), p ∈ ins x l ↔ p = x ∨ p ∈ l
  | [], p => by simp [ins]
  | y :: r, p => by
    unfold ins
    split
    · simp
    · simp only [List.mem_cons, mem_ins x r p]
      constructor
      · rintro (h | h | h) <;> simp [h]
      · rintro (h | h | h) <;> simp [h]
theorem len_ins (x : Tx × α) : ∀ (l : List (Tx × α)), (ins x l).length = l.length + 1
  | [] => rfl
  | y :: r => by
    unfold ins
    split
    · rfl
    · simp [len_ins x r]
theorem mem_del (l : List (Tx × α)) (k : Tx) (p : Tx × α) : p ∈ del l k ↔ p ∈ l ∧ p.1 ≠ k := by
  simp [del, List.mem_filter]
theorem sorted_del {l : List (Tx × α)} (h : Sorted l) (k : Tx) : Sorted (del l k) := List.Pairwise.filter _ h
theorem sorted_ins (x : Tx × α) : ∀ {l : List (Tx × α)}, Sorted l → (∀ p ∈ l, p.1 ≠ x.1) → Sorted (ins x l)
  | [], _, _ => by simp [ins, Sorted]
  | y :: r, h, hne => by
    have h' := h
    simp only [Sorted, List.pairwise_cons] at h
    unfold ins
    by_cases hb : before x.1 y.1 = true
    · rw [if_pos hb]
      simp only [Sorted, List.pairwise_cons]
      refine ⟨?_, h⟩
      intro p hp
      rcases List.mem_cons.1 hp with rfl | hp
      · exact hb
      · exact before_trans hb (h.1 p hp)
    · rw [if_neg hb]
      have hr : Sorted (ins x r) := sorted_ins x h.2 (fun p hp => hne p (List.mem_cons_of_mem _ hp))
      simp only [Sorted, List.pairwise_cons]
      refine ⟨?_, hr⟩
      intro p hp
      rcases (mem_ins x r p).1 hp with rfl | hp
      · exact before_or (by simpa using hb) (fun e => hne y (List.mem_cons_self ..) e.symm)
      · exact h.1 p hp
theorem sorted_put {l : List (Tx × α)} (h : Sorted l) (k : Tx) (v : α) : Sorted (put l k v) :=
  sorted_ins _ (sorted_del h k) (fun p hp => ((mem_del l k p).1 hp).2)
theorem sorted_inj {l : List (Tx × α)} (h : Sorted l) {p q : Tx × α} (hp : p ∈ l) (hq : q ∈ l) (e : p.1 = q.1) : p = q := by
  induction l with
  | nil => cases hp
  | cons y r ih =>
    simp only [Sorted, List.pairwise_cons] at h
    rcases List.mem_cons.1 hp with e1 | hp1
    · rcases List.mem_cons.1 hq with e2 | hq1
      · rw [e1, e2]
      · exact absurd (by rw [← e1]; exact e) (before_ne (h.1 q hq1))
    · rcases List.mem_cons.1 hq with e2 | hq1
      · exact absurd (by rw [← e2]; exact e.symm) (before_ne (h.1 p hp1))
      · exact ih h.2 hp1 hq1
theorem get_mem {l : List (Tx × α)} {k : Tx} {v : α} (h : get l k = some v) : (k, v) ∈ l := by
  simp only [get, Option.map_eq_some_iff] at h
  obtain ⟨p, hp, rfl⟩ := h
  have h1 := List.find?_some hp
  have h2 := List.mem_of_find?_eq_some hp
  have h3 : p.1 = k := by simpa using h1
  rw [← h3]; exact h2
theorem get_none {l : List (Tx × α)} {k : Tx} : get l k = none ↔ ∀ p ∈ l, p.1 ≠ k := by
  simp [get, List.find?_eq_none]
theorem get_of_mem {l : List (Tx × α)} (h : Sorted l) {k : Tx} {v : α} (hm : (k, v) ∈ l) : get l k = some v := by
  cases hg : get l k with
  | none => exact absurd rfl (get_none.1 hg (k, v) hm)
  | some u => have := sorted_inj h hm (get_mem hg) rfl; cases this; rfl
theorem del_absent {l : List (Tx × α)} {k : Tx} (h : get l k = none) : del l k = l := by
  refine List.filter_eq_self.2 fun p hp => ?_
  have := get_none.1 h p hp
  simp [this]
theorem len_del {l : List (Tx × α)} (h : Sorted l) {k : Tx} {v : α} (hg : get l k = some v) : (del l k).length + 1 = l.length := by
  induction l with
  | nil => simp [get] at hg
  | cons y r ih =>
    have h' := h
    simp only [Sorted, List.pairwise_cons] at h
    by_cases hy : y.1 = k
    · have hr : del r k = r := by
        refine List.filter_eq_self.2 fun p hp => ?_
        have := before_ne (h.1 p hp)
        simp [← hy, this.symm]
      simp only [del, List.filter_cons, hy, beq_self_eq_true, Bool.not_true, Bool.false_eq_true, ↓reduceIte, List.length_cons]
      rw [show (r.filter fun p => !(p.1 == k)) = del r k from rfl, hr]
    · have hgr : get r k = some v := by
        have hne : (y.1 == k) = false := by simp [hy]
        simpa [get, List.find?_cons, hne] using hg
      have := ih h.2 hgr
      have hne : (y.1 == k) = false := by simp [hy]
      simp only [del, List.filter_cons, hne, Bool.not_false, ↓reduceIte, List.length_cons]
      rw [show (r.filter fun p => !(p.1 == k)) = del r k from rfl]
      omega
theorem len_put {l : List (Tx × α)} (h : Sorted l) (k : Tx) (v : α) : (put l k v).length = if (get l k).isSome then l.length else l.length + 1 := by
  rw [put, len_ins]
  cases hg : get l k with
  | none => rw [del_absent hg]; simp
  | some u => simp [len_del h hg]
theorem get_at {l : List (Tx × α)} (h : Sorted l) (i : Nat) (hi : i < l.length) : get l l[i].1 = some l[i].2 :=
  get_of_mem h (List.getElem_mem hi)
theorem keys_len (l : List (Tx × α)) : (l.map (·.1)).length = l.length := by simp
/-- The keys, sorted anew, are the keys. -/
theorem keys_sorted {l : List (Tx × α)} (h : Sorted l) {ss : List Tx} (hp : ss.Perm (l.map (·.1))) : ss.mergeSort (fun x y => decide (x ≤ y)) = l.map (·.1) := by
  have h1 : (ss.mergeSort (fun x y => decide (x ≤ y))).Perm (l.map (·.1)) := (List.mergeSort_perm _ _).trans hp
  have h2 : (ss.mergeSort (fun x y => decide (x ≤ y))).Pairwise (fun x y => x ≤ y) := by
    have := List.pairwise_mergeSort (le := fun x y : Tx => decide (x ≤ y)) (fun a b c h1 h2 => by simp at *; exact List.le_trans h1 h2) (fun a b => by simp; exact List.le_total a b) ss
    simpa using this
  have h3 : (l.map (·.1)).Pairwise (fun x y => x ≤ y) := by
    rw [List.pairwise_map]
    exact List.Pairwise.imp (fun {a b} hab => List.le_of_lt ((before_lt _ _).1 hab)) h
  exact List.Perm.eq_of_pairwise (fun a b _ _ hab hba => List.le_antisymm hab hba) h2 h3 h1
/-! ### the map's datum -/
variable {H : Type}
def dat (f : α → DataW H) (l : List (Tx × α)) : DataW H := .map (l.map fun p => (.string p.1, f p.2))
theorem dat_at (f : α → DataW H) (l : List (Tx × α)) (k : Tx) (z : DataW H) : (dat f l).atKey (.string k) z = ((get l k).map f).getD z := by
  simp only [dat, DataW.atKey, List.find?_map]
  rw [show ((fun p : Lit × DataW H => p.1.sameKey (.string k)) ∘ fun p : Tx × α => (Lit.string p.1, f p.2)) = (fun p => p.1 == k) from rfl]
  simp only [get]
  cases (l.find? fun p => p.1 == k) <;> rfl
theorem dat_del (f : α → DataW H) (l : List (Tx × α)) (k : Tx) : (dat f l).del (.string k) = dat f (del l k) := by
  simp only [dat, DataW.del, del, List.filter_map]
  rfl
theorem dat_ins (f : α → DataW H) (x : Tx × α) : ∀ l : List (Tx × α), DataW.insert (.string x.1, f x.2) (l.map fun p => (Lit.string p.1, f p.2)) = (ins x l).map fun p => (Lit.string p.1, f p.2)
  | [] => rfl
  | y :: r => by
    simp only [List.map_cons, DataW.insert, ins]
    rw [show (Lit.string x.1).before (.string y.1) = before x.1 y.1 from rfl]
    by_cases h : before x.1 y.1 = true
    · simp [h]
    · simp only [h, Bool.false_eq_true, ↓reduceIte, List.map_cons]
      congr 1
      exact dat_ins f x r
theorem dat_put (f : α → DataW H) (l : List (Tx × α)) (k : Tx) (v : α) : (dat f l).put (.string k) (f v) = dat f (put l k v) := by
  have := dat_ins f (k, v) (del l k)
  have hd := dat_del f l k
  simp only [dat, DataW.del, DataW.map.injEq] at hd
  simp only [dat, DataW.put, put, hd]
  rw [this]
theorem dat_size (f : α → DataW H) (l : List (Tx × α)) : Maps.size (dat f l) = l.length := by simp [dat, size_eq]
theorem dat_keys (f : α → DataW H) (l : List (Tx × α)) : strKeys (dat f l) = l.map (·.1) := by simp [dat, strKeys, strOf, Function.comp_def]
end
end Go.Proofs.Dk
/- The disk's calls in plain words. -/
set_option linter.unusedVariables false
set_option linter.unusedSimpArgs false
namespace Go.Proofs.Dk
open Go Go.RowKit Go.Maps Go.Sort
abbrev FS := List (Tx × Fl)
/-- The bytes of names. -/
def okc (c : UInt8) : Bool := (decide (97 ≤ c.toNat) && decide (c.toNat ≤ 122)) || (decide (48 ≤ c.toNat) && decide (c.toNat ≤ 57)) || c.toNat == 46 || c.toNat == 45
/-- Is a text a name? -/
def nameOk (n : Tx) : Bool := n.all okc && (decide (1 ≤ n.length) && decide (n.length ≤ 32))
/-- All bytes. -/
def used (fs : FS) : Nat := (fs.map fun p => p.2.b.length).sum
/-- A disk's files as they may be. -/
structure Ok (q : Nat) (fs : FS) : Prop where
  sorted : Sorted fs
  names : ∀ p ∈ fs, nameOk p.1 = true
  few : fs.length ≤ 64
  sure : ∀ p ∈ fs, p.2.s ≤ p.2.b.length
  file : ∀ p ∈ fs, p.2.b.length ≤ 65536
  room : used fs ≤ q
  quota : 1 ≤ q ∧ q ≤ 1048576
/-- Why a name may not be asked for: 0, 2, 5. -/
def look (fs : FS) (n : Tx) : Nat := if nameOk n then (if (get fs n).isSome then 0 else 5) else 2
def create (fs : FS) (n : Tx) : FS × Nat :=
  if nameOk n then (if (get fs n).isSome then (fs, 6) else if 64 ≤ fs.length then (fs, 7) else (put fs n ⟨[], 0⟩, 0)) else (fs, 2)
def append (q : Nat) (fs : FS) (n b : Tx) : FS × Nat :=
  if nameOk n then
    match get fs n with
    | none => (fs, 5)
    | some f => if 65536 < f.b.length + b.length ∨ q < used fs + b.length then (fs, 7) else (upd fs n (fun f => ⟨f.b ++ b, f.s⟩), 0)
  else (fs, 2)
def sync (fs : FS) (n : Tx) : FS × Nat :=
  if nameOk n then (if (get fs n).isSome then (upd fs n (fun f => ⟨f.b, f.b.length⟩), 0) else (fs, 5)) else (fs, 2)
def rename (fs : FS) (n t : Tx) : FS × Nat :=
  if nameOk n && nameOk t then
    match get fs n with
    | none => (fs, 5)
    | some f => (put (del fs n) t f, 0)
  else (fs, 2)
def remove (fs : FS) (n : Tx) : FS × Nat :=
  if nameOk n then (if (get fs n).isSome then (del fs n, 0) else (fs, 5)) else (fs, 2)
def read (fs : FS) (n : Tx) : Tx × Nat :=
  if nameOk n then
    match get fs n with
    | none => ([], 5)
    | some f => (f.b, 0)
  else ([], 2)
def synced (fs : FS) (n : Tx) : Nat :=
  if nameOk n then
    match get fs n with
    | none => 0
    | some f => f.s
  else 0
/-- How much more is kept. -/
def more (keep : List Int) (i : Nat) (f : Fl) : Nat :=
  ((if h : 0 < keep.length then keep[i % keep.length]'(Nat.mod_lt _ h) else 0) % ((f.b.length - f.s + 1 : Nat) : Int)).toNat
def cut (keep : List Int) (i : Nat) (f : Fl) : Fl := ⟨f.b.take (f.s + more keep i f), f.s + more keep i f⟩
def crashAt (keep : List Int) : Nat → FS → FS
  | _, [] => []
  | i, p :: r => (p.1, cut keep i p.2) :: crashAt keep (i + 1) r
def crash (keep : List Int) (fs : FS) : FS := crashAt keep 0 fs
theorem more_le (keep : List Int) (i : Nat) (f : Fl) (h : f.s ≤ f.b.length) : f.s + more keep i f ≤ f.b.length := by
  unfold more
  generalize (if h : 0 < keep.length then keep[i % keep.length]'(Nat.mod_lt _ h) else 0) = k
  have h1 : 0 ≤ k % ((f.b.length - f.s + 1 : Nat) : Int) := Int.emod_nonneg _ (by omega)
  have h2 : k % ((f.b.length - f.s + 1 : Nat) : Int) < ((f.b.length - f.s + 1 : Nat) : Int) := Int.emod_lt_of_pos _ (by omega)
  omega
theorem cut_len (keep : List Int) (i : Nat) (f : Fl) (h : f.s ≤ f.b.length) : (cut keep i f).b.length = (cut keep i f).s := by
  have := more_le keep i f h
  simp only [cut, List.length_take]
  omega
theorem crashAt_len (keep : List Int) : ∀ (i : Nat) (fs : FS), (crashAt keep i fs).length = fs.length
  | _, [] => rfl
  | i, p :: r => by simp [crashAt, crashAt_len keep (i + 1) r]
theorem crashAt_keys (keep : List Int) : ∀ (i : Nat) (fs : FS), (crashAt keep i fs).map (·.1) = fs.map (·.1)
  | _, [] => rfl
  | i, p :: r => by simp [crashAt, crashAt_keys keep (i + 1) r]
theorem crashAt_get (keep : List Int) : ∀ (i j : Nat) (fs : FS) (h : j < fs.length), (crashAt keep i fs)[j]'(by rw [crashAt_len]; exact h) = (fs[j].1, cut keep (i + j) fs[j].2)
  | _, _, [], h => by simp at h
  | i, 0, p :: r, _ => rfl
  | i, j + 1, p :: r, h => by
    have := crashAt_get keep (i + 1) j r (by simpa using h)
    simp only [crashAt, List.getElem_cons_succ, this]
    rw [show i + 1 + j = i + (j + 1) by omega]
theorem sorted_of_keys {α β : Type} {l : List (Tx × α)} {l' : List (Tx × β)} (h : Sorted l) (e : l'.map (·.1) = l.map (·.1)) : Sorted l' := by
  have h1 : (l.map (·.1)).Pairwise (fun a b => before a b = true) := by rw [List.pairwise_map]; exact h
  rw [← e, List.pairwise_map] at h1
  exact h1
theorem crash_mem {keep : List Int} {i : Nat} {fs : FS} {p : Tx × Fl} (h : p ∈ crashAt keep i fs) : ∃ q ∈ fs, ∃ j, p = (q.1, cut keep j q.2) := by
  obtain ⟨j, hj, rfl⟩ := List.getElem_of_mem h
  rw [crashAt_len] at hj
  exact ⟨fs[j], List.getElem_mem hj, i + j, crashAt_get keep i j fs hj⟩
theorem crashAt_used (keep : List Int) : ∀ (i : Nat) (fs : FS), (∀ p ∈ fs, p.2.s ≤ p.2.b.length) → used (crashAt keep i fs) ≤ used fs
  | _, [], _ => Nat.le_refl _
  | i, p :: r, h => by
    have h1 := crashAt_used keep (i + 1) r (fun q hq => h q (List.mem_cons_of_mem _ hq))
    have h2 := cut_len keep i p.2 (h p (List.mem_cons_self ..))
    have h3 := more_le keep i p.2 (h p (List.mem_cons_self ..))
    simp only [used, crashAt, List.map_cons, List.sum_cons] at *
    rw [h2]
    simp only [cut]
    omega
theorem Ok.crash {q : Nat} {fs : FS} (h : Ok q fs) (keep : List Int) : Ok q (crash keep fs) where
  sorted := sorted_of_keys h.sorted (crashAt_keys keep 0 fs)
  names := fun p hp => by obtain ⟨r, hr, j, rfl⟩ := crash_mem hp; exact h.names r hr
  few := by rw [Dk.crash, crashAt_len]; exact h.few
  sure := fun p hp => by obtain ⟨r, hr, j, rfl⟩ := crash_mem hp; exact Nat.le_of_eq (cut_len keep j r.2 (h.sure r hr)).symm
  file := fun p hp => by
    obtain ⟨r, hr, j, rfl⟩ := crash_mem hp
    have := cut_len keep j r.2 (h.sure r hr)
    have h3 := more_le keep j r.2 (h.sure r hr)
    have := h.file r hr
    simp only [cut] at *
    omega
  room := Nat.le_trans (crashAt_used keep 0 fs h.sure) h.room
  quota := h.quota
theorem upd_keys {α : Type} (l : List (Tx × α)) (k : Tx) (f : α → α) : (upd l k f).map (·.1) = l.map (·.1) := by
  simp only [upd, List.map_map]
  apply List.map_congr_left
  intro p _
  simp only [Function.comp_apply]
  split <;> rfl
theorem upd_len {α : Type} (l : List (Tx × α)) (k : Tx) (f : α → α) : (upd l k f).length = l.length := by simp [upd]
theorem mem_upd {α : Type} {l : List (Tx × α)} {k : Tx} {f : α → α} {p : Tx × α} (h : p ∈ upd l k f) : (p ∈ l ∧ p.1 ≠ k) ∨ ∃ v, (k, v) ∈ l ∧ p = (k, f v) := by
  simp only [upd, List.mem_map] at h
  obtain ⟨r, hr, rfl⟩ := h
  by_cases hk : r.1 = k
  · right
    refine ⟨r.2, by rw [← hk]; exact hr, ?_⟩
    simp [hk]
  · left
    simp [hk, hr]
theorem used_cons (p : Tx × Fl) (r : FS) : used (p :: r) = p.2.b.length + used r := by simp [used]
theorem used_ins (x : Tx × Fl) : ∀ l : FS, used (ins x l) = x.2.b.length + used l
  | [] => by simp [ins, used]
  | y :: r => by
    unfold ins
    split
    · rw [used_cons]
    · rw [used_cons, used_ins x r, used_cons]; omega
theorem used_del {l : FS} (h : Sorted l) {k : Tx} {f : Fl} (hg : get l k = some f) : used (del l k) + f.b.length = used l := by
  induction l with
  | nil => simp [get] at hg
  | cons y r ih =>
    have h' := h
    simp only [Sorted, List.pairwise_cons] at h
    by_cases hy : y.1 = k
    · have hr : del r k = r := by
        refine List.filter_eq_self.2 fun p hp => ?_
        have := before_ne (h.1 p hp)
        simp [← hy, this.symm]
      have hf : y.2 = f := by
        have : (y.1 == k) = true := by simp [hy]
        simpa [get, List.find?_cons, this] using hg
      have hd : del (y :: r) k = r := by
        rw [← hr]
        simp only [del, List.filter_cons, hy, beq_self_eq_true, Bool.not_true, Bool.false_eq_true, ↓reduceIte]
        simp
      rw [hd, used_cons, hf]; omega
    · have hne : (y.1 == k) = false := by simp [hy]
      have hgr : get r k = some f := by simpa [get, List.find?_cons, hne] using hg
      have := ih h.2 hgr
      have hd : del (y :: r) k = y :: del r k := by
        simp only [del, List.filter_cons, hne, Bool.not_false, ↓reduceIte]
      rw [hd, used_cons, used_cons]; omega
theorem used_upd {l : FS} (h : Sorted l) {k : Tx} {f : Fl} (g : Fl → Fl) (hg : get l k = some f) : used (upd l k g) + f.b.length = used l + (g f).b.length := by
  induction l with
  | nil => simp [get] at hg
  | cons y r ih =>
    have h' := h
    simp only [Sorted, List.pairwise_cons] at h
    by_cases hy : y.1 = k
    · have hf : y.2 = f := by
        have : (y.1 == k) = true := by simp [hy]
        simpa [get, List.find?_cons, this] using hg
      have hr : upd r k g = r := by
        have : ∀ p ∈ r, (if p.1 == k then (p.1, g p.2) else p) = p := fun p hp => by
          have := before_ne (h.1 p hp)
          simp [← hy, this.symm]
        exact (List.map_congr_left this).trans (List.map_id' r)
      have hd : upd (y :: r) k g = (y.1, g y.2) :: upd r k g := by simp [upd, hy]
      rw [hd, hr, used_cons, used_cons, hf]
      dsimp only
      omega
    · have hne : (y.1 == k) = false := by simp [hy]
      have hgr : get r k = some f := by simpa [get, List.find?_cons, hne] using hg
      have := ih h.2 hgr
      have hd : upd (y :: r) k g = y :: upd r k g := by simp [upd, hy]
      rw [hd, used_cons, used_cons]; omega
theorem upd_sorted {α : Type} {l : List (Tx × α)} (h : Sorted l) (k : Tx) (f : α → α) : Sorted (upd l k f) := sorted_of_keys h (upd_keys l k f)
theorem get_cons {α : Type} (y : Tx × α) (r : List (Tx × α)) (k : Tx) : get (y :: r) k = if y.1 = k then some y.2 else get r k := by
  by_cases h : y.1 = k
  · have : (y.1 == k) = true := by simp [h]
    simp [get, List.find?_cons, this, h]
  · have : (y.1 == k) = false := by simp [h]
    simp [get, List.find?_cons, this, h]
theorem get_upd {α : Type} {l : List (Tx × α)} (k k' : Tx) (f : α → α) : get (upd l k f) k' = if k' = k then (get l k).map f else get l k' := by
  induction l with
  | nil => simp [upd, get]
  | cons y r ih =>
    have e : upd (y :: r) k f = (if y.1 == k then (y.1, f y.2) else y) :: upd r k f := rfl
    rw [e, get_cons, get_cons, get_cons, ih]
    by_cases hy : y.1 = k
    · by_cases hk : k' = k
      · simp [hy, hk]
      · have h1 : ¬ k = k' := fun e => hk e.symm
        simp [hy, hk, h1]
    · by_cases hk : k' = k
      · subst hk; simp [hy]
      · simp [hy, hk]
theorem nameOk_len {n : Tx} (h : nameOk n = true) : 1 ≤ n.length ∧ n.length ≤ 32 := by
  simp only [nameOk, Bool.and_eq_true, decide_eq_true_eq] at h; exact h.2
theorem Ok.new {q : Nat} (h : 1 ≤ q ∧ q ≤ 1048576) : Ok q [] where
  sorted := List.Pairwise.nil
  names := by simp
  few := by simp
  sure := by simp
  file := by simp
  room := by simp [used]
  quota := h
theorem Ok.del {q : Nat} {fs : FS} (h : Ok q fs) (n : Tx) : Ok q (Dk.del fs n) where
  sorted := sorted_del h.sorted n
  names := fun p hp => h.names p ((mem_del _ _ _).1 hp).1
  few := Nat.le_trans (List.length_filter_le _ _) h.few
  sure := fun p hp => h.sure p ((mem_del _ _ _).1 hp).1
  file := fun p hp => h.file p ((mem_del _ _ _).1 hp).1
  room := by
    cases hg : get fs n with
    | none => rw [del_absent hg]; exact h.room
    | some f => have := used_del h.sorted hg; have := h.room; omega
  quota := h.quota
theorem Ok.create {q : Nat} {fs : FS} (h : Ok q fs) (n : Tx) : Ok q (create fs n).1 := by
  unfold Dk.create
  split
  · rename_i hn
    split
    · exact h
    · split
      · exact h
      · rename_i h1 h2
        have hg : get fs n = none := by simpa using h1
        exact {
          sorted := sorted_put h.sorted n _
          names := fun p hp => by rcases (mem_ins _ _ _).1 hp with rfl | hp; exact hn; exact h.names p ((mem_del _ _ _).1 hp).1
          few := by rw [len_put h.sorted, hg]; simp; omega
          sure := fun p hp => by rcases (mem_ins _ _ _).1 hp with rfl | hp; exact Nat.le_refl _; exact h.sure p ((mem_del _ _ _).1 hp).1
          file := fun p hp => by rcases (mem_ins _ _ _).1 hp with rfl | hp; exact Nat.zero_le _; exact h.file p ((mem_del _ _ _).1 hp).1
          room := by rw [put, used_ins, del_absent hg]; simp; exact h.room
          quota := h.quota }
  · exact h
theorem Ok.upd {q : Nat} {fs : FS} (h : Ok q fs) (n : Tx) {f : Fl} (hg : get fs n = some f) (g : Fl → Fl) (h1 : (g f).s ≤ (g f).b.length) (h2 : (g f).b.length ≤ 65536) (h3 : used fs + (g f).b.length ≤ q + f.b.length) : Ok q (Dk.upd fs n g) where
  sorted := upd_sorted h.sorted n g
  names := fun p hp => by
    rcases mem_upd hp with hp | ⟨v, hv, rfl⟩
    · exact h.names p hp.1
    · exact h.names (n, v) hv
  few := by rw [upd_len]; exact h.few
  sure := fun p hp => by
    rcases mem_upd hp with hp | ⟨v, hv, rfl⟩
    · exact h.sure p hp.1
    · have := get_of_mem h.sorted hv; rw [hg] at this; cases this; exact h1
  file := fun p hp => by
    rcases mem_upd hp with hp | ⟨v, hv, rfl⟩
    · exact h.file p hp.1
    · have := get_of_mem h.sorted hv; rw [hg] at this; cases this; exact h2
  room := by have := used_upd h.sorted g hg; omega
  quota := h.quota
theorem Ok.append {q : Nat} {fs : FS} (h : Ok q fs) (n b : Tx) : Ok q (append q fs n b).1 := by
  unfold Dk.append
  split
  · split
    · exact h
    · rename_i f hg
      split
      · exact h
      · rename_i h1
        have h2 := h.sure (n, f) (get_mem hg)
        have h3 := h.file (n, f) (get_mem hg)
        refine h.upd n hg (fun f => ⟨f.b ++ b, f.s⟩) ?_ ?_ ?_ <;> simp only [List.length_append] at * <;> omega
  · exact h
theorem Ok.sync {q : Nat} {fs : FS} (h : Ok q fs) (n : Tx) : Ok q (sync fs n).1 := by
  unfold Dk.sync
  split
  · split
    · rename_i h1
      obtain ⟨f, hg⟩ := Option.isSome_iff_exists.1 h1
      have h3 := h.file (n, f) (get_mem hg)
      have h4 := h.room
      exact h.upd n hg (fun f => ⟨f.b, f.b.length⟩) (Nat.le_refl _) h3 (by dsimp only; omega)
    · exact h
  · exact h
theorem Ok.remove {q : Nat} {fs : FS} (h : Ok q fs) (n : Tx) : Ok q (remove fs n).1 := by
  unfold Dk.remove
  split
  · split
    · exact h.del n
    · exact h
  · exact h
theorem Ok.rename {q : Nat} {fs : FS} (h : Ok q fs) (n t : Tx) : Ok q (rename fs n t).1 := by
  unfold Dk.rename
  split
  · rename_i hn
    simp only [Bool.and_eq_true] at hn
    split
    · exact h
    · rename_i f hg
      have h1 := used_del h.sorted hg
      have h2 := len_del h.sorted hg
      have hd := (h.del n).del t
      have hu : used (Dk.del (Dk.del fs n) t) ≤ used (Dk.del fs n) := by
        cases hg2 : get (Dk.del fs n) t with
        | none => rw [del_absent hg2]; exact Nat.le_refl _
        | some f2 => have := used_del (h.del n).sorted hg2; omega
      have hl : (Dk.del (Dk.del fs n) t).length ≤ (Dk.del fs n).length := List.length_filter_le _ _
      exact {
        sorted := sorted_put (h.del n).sorted t f
        names := fun p hp => by rcases (mem_ins _ _ _).1 hp with rfl | hp; exact hn.2; exact hd.names p hp
        few := by have := h.few; rw [put, len_ins]; omega
        sure := fun p hp => by rcases (mem_ins _ _ _).1 hp with rfl | hp; exact h.sure (n, f) (get_mem hg); exact hd.sure p hp
        file := fun p hp => by rcases (mem_ins _ _ _).1 hp with rfl | hp; exact h.file (n, f) (get_mem hg); exact hd.file p hp
        room := by have := h.room; rw [put, used_ins]; simp only; omega
        quota := h.quota }
  · exact h
/-! ### numbers counted round -/
theorem tmod_emod (k m : Int) : (k.tmod m) % m = k % m := by
  have h := Int.mul_tdiv_add_tmod k m
  have : k.tmod m = k - m * k.tdiv m := by omega
  rw [this, Int.sub_mul_emod_self_left]
theorem tmod_gt (k m : Int) (h : 0 < m) : -m < k.tmod m ∧ k.tmod m < m := by
  refine ⟨?_, Int.tmod_lt_of_pos k h⟩
  have h1 := Int.tmod_lt_of_pos (-k) h
  rw [Int.neg_tmod] at h1
  omega
theorem round_is (k m : Int) (h : 0 < m) : ((k.tmod m) + m).tmod m = k % m := by
  have h1 := tmod_gt k m h
  rw [Int.tmod_eq_emod_of_nonneg (by omega), Int.add_emod_right, tmod_emod]
end Go.Proofs.Dk
/- May a text be a name? (functions 71, 83, 70, 37, 56) -/
set_option linter.unusedVariables false
set_option linter.unusedSimpArgs false
namespace Go.Proofs.YtbffgpfkgmhmhaaGreatDoor.Dw
open Go.RowKit Go.Proofs.YtbffgpfkgmhmhaaGreatDoorW.PrintWords Go.Proofs.YtbffgpfkgmhmhaaGreatDoorW.PrintLast Go.Proofs.YtbffgpfkgmhmhaaGreatDoorW.PrintMore Go.Proofs.Dk
set_option maxRecDepth 100000
theorem idx84 (s : ByteArray) (c : Int) (w : World) : Calls Tryz.prog 166 #[.string s, .int .u8 c] w fun e w' => e = .returned (.int .i64 (Lib.indexByte s.data.toList c.toNat.toUInt8)) ∧ w' = w := by
  go_enter Tryz.func166, Tryz.ntmps166
  go_wp2
  rw [run_callFunc_extern Tryz.func191 (by kernel_rfl) (by kernel_rfl) (by kernel_rfl) (e := Extern.BytealgIndexByte.indexByte) (by kernel_rfl), Lib.run_indexByteString]
  simp only [Result.andThen]
  rw [Oper.upon_value]
  go_wp2
  go_ret
  exact ⟨rfl, rfl⟩
theorem idx72 (s : ByteArray) (c : Int) (w : World) : Calls Tryz.prog 147 #[.string s, .int .u8 c] w fun e w' => e = .returned (.int .i64 (Lib.indexByte s.data.toList c.toNat.toUInt8)) ∧ w' = w := by
  go_enter Tryz.func147, Tryz.ntmps147
  go_wp2_with (go_at_call 166; refine (idx84 _ _ _).mono ?_; rintro e w' ⟨rfl, rfl⟩)
  go_ret
  exact ⟨rfl, rfl⟩
def allowedB : ByteArray := ⟨#[97, 98, 99, 100, 101, 102, 103, 104, 105, 106, 107, 108, 109, 110, 111, 112, 113, 114, 115, 116, 117, 118, 119, 120, 121, 122, 48, 49, 50, 51, 52, 53, 54, 55, 56, 57, 46, 45]⟩
theorem allowed_is : ∀ i : Fin 256, decide (Lib.indexByte allowedB.data.toList (UInt8.ofNat i.val) < 0) = !okc (UInt8.ofNat i.val) := by decide +kernel
theorem allowed_u8 (c : UInt8) : decide (Lib.indexByte allowedB.data.toList c < 0) = !okc c := by
  have h := allowed_is ⟨c.toNat, c.toNat_lt⟩
  simpa using h
theorem may1_calls (c : UInt8) (w : World) : Calls Tryz.prog 146 #[.int .u8 (c.toNat : Int)] w fun e w' => e = .returned (.bool (!okc c)) ∧ w' = w := by
  have h := allowed_u8 c
  have h2 : ((c.toNat : Int)).toNat.toUInt8 = c := by simp
  go_enter Tryz.func146, Tryz.ntmps146
  go_wp2_with (go_at_call 147; refine (idx72 allowedB _ _).mono ?_; rintro e w' ⟨rfl, rfl⟩)
  go_ret
  exact ⟨rfl, rfl⟩
/-- The cells of a text's bytes. -/
def Bytes (w : World) (A : Option Addr) (l : List UInt8) : Prop := ∀ (j : Nat) (h : j < l.length), ∃ ad, A = some ad ∧ w.cell? (ad.add j) = some (.int .u8 ((l[j]).toNat : Int))
theorem idxf_calls (w : World) (A : Option Addr) (cap : Nat) (l : List UInt8) (hl : l.length ≤ 1000) (hc : Bytes w A l) :
    Calls Tryz.prog 165 #[.slice A l.length cap, .func (.func 146) #[] #[]] w fun e w' => (∃ r : Int, e = .returned (.int .i64 r) ∧ decide (0 ≤ r) = !l.all okc) ∧ w' = w := by
  go_enter Tryz.func165, Tryz.ntmps165
  go_wp2_with fail
  go_loopw [8] (fun t8 wr => ∃ i : Nat, i ≤ l.length ∧ t8 = .int .i64 i ∧ (l.take i).all okc = true ∧ wr = w) (fun t8 _ => l.length - (intOf t8).toNat)
  case atStart => exact ⟨0, Nat.zero_le _, rfl, rfl, rfl⟩
  case round =>
    obtain ⟨i, hi, rfl, hok, rfl⟩ := hrel
    by_cases hlt : i < l.length
    · have hltb : decide ((i : Int) < (l.length : Int)) = true := decide_eq_true (by omega)
      obtain ⟨ad, rfl, hcell⟩ := hc i hlt
      have hk0 : 0 ≤ (i : Int) := by omega
      have hM := Lib.hid (may1_calls l[i] wr)
      generalize hci : l[i] = c at *
      go_wp2_with fail
      refine hM.out.mono ?_
      rintro e w' ⟨rfl, rfl⟩
      cases hk : okc c
      · rw [Bool.not_false]
        go_wp2
        go_ret
        refine ⟨⟨_, rfl, ?_⟩, rfl⟩
        have h1 : l.all okc = false := by
          rw [Bool.eq_false_iff]
          intro h
          have := List.all_eq_true.1 h _ (List.getElem_mem hlt)
          rw [hci, hk] at this
          cases this
        rw [h1]
        simp
      · rw [Bool.not_true]
        go_wp2
        refine ⟨⟨i + 1, by omega, by go_num, ?_, trivial⟩, by simp [intOf]; omega⟩
        rw [List.take_succ_eq_append_getElem hlt, List.all_append, hok, hci]
        simp [hk]
    · have hltb : decide ((i : Int) < (l.length : Int)) = false := decide_eq_false (by omega)
      have he : i = l.length := by omega
      subst he
      rw [List.take_length] at hok
      go_wp2
      go_ret
      exact ⟨⟨_, rfl, by rw [hok]; rfl⟩, rfl⟩
theorem contf_calls (w : World) (A : Option Addr) (cap : Nat) (l : List UInt8) (hl : l.length ≤ 1000) (hc : Bytes w A l) :
    Calls Tryz.prog 145 #[.slice A l.length cap, .func (.func 146) #[] #[]] w fun e w' => e = .returned (.bool (!l.all okc)) ∧ w' = w := by
  go_enter Tryz.func145, Tryz.ntmps145
  go_wp2_with (go_at_call 165; refine (idxf_calls w A cap l hl hc).mono ?_; rintro e w' ⟨⟨r, rfl, hr⟩, rfl⟩)
  go_ret
  exact ⟨rfl, rfl⟩
end Go.Proofs.YtbffgpfkgmhmhaaGreatDoor.Dw
/- A disk in a world; is, may, find (functions 37, 56, 36). -/
set_option linter.unusedVariables false
set_option linter.unusedSimpArgs false
namespace Go.Proofs.YtbffgpfkgmhmhaaGreatDoor.Dw
open Go.RowKit Go.Proofs.YtbffgpfkgmhmhaaGreatDoorW.PrintWords Go.Proofs.YtbffgpfkgmhmhaaGreatDoorW.PrintLast Go.Proofs.YtbffgpfkgmhmhaaGreatDoorW.PrintMore Go.Proofs.Dk
set_option maxRecDepth 100000
/-- A text's bytes as a string. -/
def bs (l : Tx) : ByteArray := ⟨l.toArray⟩
theorem bs_list (l : Tx) : (bs l).data.toList = l := by simp [bs]
theorem bs_size (l : Tx) : (bs l).size = l.length := by simp [bs, ByteArray.size]
theorem bs_toList (l : Tx) : (bs l).toList = l := by rw [ByteArray.toList_eq, bs_list]
/-- How a pointer to a file reads: the number of its block. -/
def RF : Value → Option (DataW Nat × List MemPlace)
  | .pointer none => some (.nil, [])
  | .pointer (some ⟨b, 0, none⟩) => some (.lit (.int .u64 b), [])
  | _ => none
abbrev Lf := List (Tx × (Nat × Fl))
def blk (p : Nat × Fl) : DataW Nat := .lit (.int .u64 (p.1 : Int))
/-- A file's cells. -/
def fcells (f : Fl) : Array Value := #[.string (bs f.b), .int .i64 f.s]
/-- Block d is a disk: its map at mb, its files. -/
structure IsD (w : World) (base d mb q : Nat) (L : Lf) : Prop where
  top : w.heap[d]? = some (.cells #[.int .i64 q, .map (some mb)] 81)
  dlow : base ≤ d
  map : w.ownsMap Tryz.prog 9 RF mb L.length (dat blk L)
  mlow : base ≤ mb
  file : ∀ p ∈ L, w.heap[p.2.1]? = some (.cells (fcells p.2.2) 143)
  flow : ∀ p ∈ L, base ≤ p.2.1
  apart : L.Pairwise fun x y => x.2.1 ≠ y.2.1
  ok : Ok q (vals (·.2) L)
theorem IsD.same {w w' : World} {base d mb q : Nat} {L : Lf} (h : IsD w base d mb q L) (hs : ∀ k o, w.heap[k]? = some o → (k = d ∨ k = mb ∨ ∃ p ∈ L, k = p.2.1) → w'.heap[k]? = some o) : IsD w' base d mb q L where
  top := hs _ _ h.top (Or.inl rfl)
  dlow := h.dlow
  map := by
    obtain ⟨es, clock, hb, F, hn, hD⟩ := h.map
    exact ⟨es, clock, hs _ _ hb (Or.inr (Or.inl rfl)), F, hn, hD⟩
  mlow := h.mlow
  file := fun p hp => hs _ _ (h.file p hp) (Or.inr (Or.inr ⟨p, hp, rfl⟩))
  flow := h.flow
  apart := h.apart
  ok := h.ok
theorem heap_lt {w : World} {k : Nat} {o : Obj} (h : w.heap[k]? = some o) : k < w.heap.size := (Array.getElem?_eq_some_iff.1 h).1
theorem IsD.below {w w' : World} {base d mb q : Nat} {L : Lf} (h : IsD w base d mb q L) (hB : Below w.heap.size w w') : IsD w' base d mb q L :=
  h.same fun k o hk _ => (hB.block k (heap_lt hk)).trans hk
theorem IsD.alloc {w : World} {base d mb q : Nat} {L : Lf} (h : IsD w base d mb q L) (o : Obj) : IsD (w.alloc o) base d mb q L := h.below ((Below.refl _ w).alloc (Nat.le_refl _) o)
theorem IsD.drewN {w : World} {base d mb q : Nat} {L : Lf} (h : IsD w base d mb q L) (n : Nat) : IsD (w.drewN n) base d mb q L := h.below (pw_below_drewN (Below.refl _ w) n)
theorem IsD.q0 {w : World} {base d mb q : Nat} {L : Lf} (h : IsD w base d mb q L) : w.cell? ⟨d, 0, none⟩ = some (.int .i64 q) := by simp [World.cell?, h.top]
theorem IsD.q1 {w : World} {base d mb q : Nat} {L : Lf} (h : IsD w base d mb q L) : w.cell? ⟨d, 1, none⟩ = some (.map (some mb)) := by simp [World.cell?, h.top]
theorem neq_map (m : Option Nat) (w : World) : (binOp .neq 79 (.map m) (.map none)).run Tryz.prog w = .ok (.bool (!m.isNone)) w := run_neq_map_nil w 79 9 139 m Tryz.underlying79
theorem is_calls (w : World) {base d mb q : Nat} {L : Lf} (h : IsD w base d mb q L) : Calls Tryz.prog 96 #[.pointer (some ⟨d, 0, none⟩)] w fun e w' => e = .returned (.bool true) ∧ w' = w := by
  have h1 := h.q1
  have hnm := neq_map (some mb) w
  go_enter Tryz.func96, Tryz.ntmps96
  go_wp2
  go_ret
  exact ⟨rfl, rfl⟩
theorem cell_below {w W : World} {a : Addr} {v : Value} (h : w.cell? a = some v) (hB : Below w.heap.size w W) : W.cell? a = some v := by
  have hlt : a.block < w.heap.size := by
    rcases Nat.lt_or_ge a.block w.heap.size with h1 | h1
    · exact h1
    · exfalso
      unfold World.cell? at h
      rw [Array.getElem?_eq_none h1] at h
      simp at h
  rw [← h]
  unfold World.cell?
  rw [hB.block a.block hlt]
set_option maxHeartbeats 4000000 in
set_option maxRecDepth 100000 in
/-- A row of texts. -/
def encS (n : Tx) : Value := .string (bs n)
def Names (w : World) (A : Option Addr) (l : List Tx) : Prop := ∀ (j : Nat) (h : j < l.length), ∃ ad, A = some ad ∧ w.cell? (ad.add j) = some (encS l[j])
theorem Names.below {w w' : World} {A : Option Addr} {l : List Tx} (h : Names w A l) (hB : Below w.heap.size w w') : Names w' A l := fun j hj => by
  obtain ⟨ad, e, hc⟩ := h j hj
  exact ⟨ad, e, cell_below hc hB⟩
theorem bytes_below (w : World) (s : ByteArray) : Below w.heap.size w (Lib.bytesWorld w 5 s) :=
  ⟨rfl, rfl, rfl, by rw [Lib.bytesWorld_size]; omega, fun k hk => Lib.bytesWorld_at_old w 5 s k hk⟩
theorem bytes_cells (w : World) (l : Tx) : Bytes (Lib.bytesWorld w 5 (bs l)) (some ⟨w.heap.size, 0, none⟩) l := fun j h => by
  refine ⟨_, rfl, ?_⟩
  have := Lib.bytesWorld_cell w 5 (bs l) j (by rw [bs_size]; exact h)
  rw [bs_list, List.getD_eq_getElem?_getD, List.getElem?_eq_getElem h] at this
  rw [show (⟨w.heap.size, 0, none⟩ : Addr).add j = ⟨w.heap.size, j, none⟩ from by cases j <;> simp [Addr.add]]
  exact this
/-- What may answers. -/
def mayE (l : List Tx) : Int := if l.all nameOk then 0 else 2
theorem mayE_ok {l : List Tx} (h : l.all nameOk = true) : mayE l = 0 := by rw [mayE, if_pos h]
theorem bad_one {l : List Tx} {i : Nat} (hlt : i < l.length) {c : Tx} (hci : l[i] = c) (hb : nameOk c = false) : mayE l = 2 := by
  rw [mayE, if_neg]
  intro h
  have := List.all_eq_true.1 h _ (List.getElem_mem hlt)
  rw [hci, hb] at this
  cases this
theorem good_one {l : List Tx} {i : Nat} (hlt : i < l.length) {c : Tx} (hci : l[i] = c) (hb : nameOk c = true) (hok : (l.take i).all nameOk = true) : (l.take (i + 1)).all nameOk = true := by
  rw [List.take_succ_eq_append_getElem hlt, List.all_append, hok, hci]
  simp [hb]
set_option maxHeartbeats 1000000 in
theorem may_calls (w : World) {base d mb q : Nat} {L : Lf} (hD : IsD w base d mb q L) (A : Option Addr) (cap : Nat) (l : List Tx) (hl : l.length ≤ 1000) (hN : Names w A l) :
    Calls Tryz.prog 110 #[.pointer (some ⟨d, 0, none⟩), .slice A l.length cap] w fun e w' => e = .returned (.int .i64 (mayE l)) ∧ Below w.heap.size w w' := by
  go_enter Tryz.func110, Tryz.ntmps110
  go_wp2_with (go_at_call 96; refine (is_calls w hD).mono ?_; rintro e w' ⟨rfl, hw'⟩; obtain rfl := hw'.symm)
  go_loopw [12] (fun t12 wr => ∃ i : Nat, i ≤ l.length ∧ t12 = .int .i64 i ∧ (l.take i).all nameOk = true ∧ Below w.heap.size w wr) (fun t12 _ => l.length - (intOf t12).toNat)
  case atStart => exact ⟨0, Nat.zero_le _, rfl, rfl, Below.refl _ _⟩
  case round =>
    obtain ⟨i, hi, rfl, hok, hB⟩ := hrel
    have HB := Lib.hid hB
    have HN := Lib.hid (hN.below hB)
    clear hB hN
    by_cases hlt : i < l.length
    · have hltb : decide ((i : Int) < (l.length : Int)) = true := decide_eq_true (by omega)
      obtain ⟨ad, rfl, hcell⟩ := HN.out i hlt
      have hk0 : 0 ≤ (i : Int) := by omega
      have hns := bs_size l[i]
      unfold encS at hcell
      generalize hci : l[i] = c at *
      have HK := Lib.hid (good_one hlt hci)
      have HX := Lib.hid (bad_one hlt hci)
      have HO := Lib.hid hok
      have hl := Lib.hid hl
      clear hok
      have hbl := bs_toList c
      by_cases h0 : c = []
      · have e1 : (c == []) = true := by simp [h0]
        have e2 : c.isEmpty = true := by simp [h0]
        have hb := Lib.hid (show nameOk c = false by rw [h0]; rfl)
        clear h0
        go_wp2_with fail
        go_ret
        exact ⟨by rw [HX.out hb.out]; rfl, HB.out⟩
      · have e1 : (c == []) = false := by simp [h0]
        have e2 : c.isEmpty = false := by simp [h0]
        by_cases h32 : 32 < c.length
        · have d3 : decide (32 < (c.length : Int)) = true := decide_eq_true (by omega)
          have hb := Lib.hid (show nameOk c = false by simp only [nameOk, Bool.and_eq_false_iff, decide_eq_false_iff_not]; right; right; omega)
          clear h0
          go_wp2_with fail
          go_ret
          exact ⟨by rw [HX.out hb.out]; rfl, HB.out⟩
        · have d3 : decide (32 < (c.length : Int)) = false := decide_eq_false (by omega)
          have h1 : 1 ≤ c.length := by cases c with | nil => exact absurd rfl h0 | cons _ _ => simp
          have hN : nameOk c = c.all okc := by
            have a1 : decide (1 ≤ c.length) = true := decide_eq_true h1
            have a2 : decide (c.length ≤ 32) = true := decide_eq_true (by omega)
            simp only [nameOk, a1, a2, Bool.and_true]
          have HN2 := Lib.hid hN
          have HC := Lib.hid (contf_calls (Lib.bytesWorld wr 5 (bs c)) (some ⟨wr.heap.size, 0, none⟩) (grownCap wr c.length 0 5) c (by omega) (bytes_cells wr c))
          have HB2 := Lib.hid (HB.out.trans ((bytes_below wr (bs c)).mono HB.out.size))
          have hconv : (convert 9 83 (.string (bs c))).run Tryz.prog wr = .ok (.slice (some ⟨wr.heap.size, 0, none⟩) (bs c).size (grownCap wr (bs c).size 0 5)) (Lib.bytesWorld wr 5 (bs c)) := Lib.run_convert_string_bytes wr 9 83 5 (bs c) Tryz.underlying9 Tryz.underlying83 Tryz.underlying5
          rw [hns] at hconv
          clear h0 hN
          go_wp2_with fail
          refine HC.out.mono ?_
          rintro e w5 ⟨rfl, hw5⟩
          obtain rfl := hw5.symm
          clear hw5 HC hconv
          generalize hW : Lib.bytesWorld wr 5 (bs c) = W5 at *
          cases hk : c.all okc
          · have hb := Lib.hid (HN2.out.trans hk)
            rw [Bool.not_false]
            go_wp2_with fail
            go_ret
            exact ⟨by rw [HX.out hb.out]; rfl, HB2.out⟩
          · have hb := Lib.hid (HN2.out.trans hk)
            rw [Bool.not_true]
            go_wp2_with fail
            exact ⟨⟨i + 1, by omega, by go_num, HK.out hb.out HO.out, HB2.out⟩, by simp [intOf]; omega⟩
    · have hltb : decide ((i : Int) < (l.length : Int)) = false := decide_eq_false (by omega)
      have he : i = l.length := by omega
      subst he
      rw [List.take_length] at hok
      have HO := Lib.hid hok
      clear hok
      go_wp2
      go_ret
      exact ⟨by rw [mayE_ok HO.out]; rfl, HB.out⟩
end Go.Proofs.YtbffgpfkgmhmhaaGreatDoor.Dw
/- find (function 36). -/
set_option linter.unusedVariables false
set_option linter.unusedSimpArgs false
namespace Go.Proofs.YtbffgpfkgmhmhaaGreatDoor.Dw
open Go.RowKit Go.Maps Go.Proofs.YtbffgpfkgmhmhaaGreatDoorW.PrintWords Go.Proofs.YtbffgpfkgmhmhaaGreatDoorW.PrintLast Go.Proofs.YtbffgpfkgmhmhaaGreatDoorW.PrintMore Go.Proofs.Dk
set_option maxRecDepth 100000
theorem key_is (n : Tx) (h : n.length ≤ 1000) : keyOf Tryz.prog 9 (.string (bs n)) = some (.string n) := by
  have h2 : (bs n).size ≤ maxLen := by rw [bs_size]; simp [maxLen]; omega
  simp [keyOf, mapKey, Tryz.underlying9, h2, bs_list]
theorem zero71 (w : World) : (zeroValue 139).run Tryz.prog w = .ok (.pointer none) w := by kernel_rfl
theorem RF_nil {v : Value} {ps : List MemPlace} (h : RF v = some ((Option.map blk (none : Option (Nat × Fl))).getD .nil, ps)) : v = .pointer none := by
  unfold RF at h
  split at h
  · rfl
  · simp at h
  · cases h
theorem RF_at {v : Value} {ps : List MemPlace} {p : Nat × Fl} (h : RF v = some ((Option.map blk (some p)).getD .nil, ps)) : v = .pointer (some ⟨p.1, 0, none⟩) := by
  unfold RF at h
  split at h
  · simp [blk] at h
  · simp only [Option.map_some, Option.getD_some, blk, Option.some.injEq, Prod.mk.injEq, DataW.lit.injEq, Lit.int.injEq, true_and] at h
    rw [Int.ofNat.inj h.1]
  · cases h
/-- What a look-up in the map tells. -/
theorem look_is (w : World) {base d mb q : Nat} {L : Lf} (hD : IsD w base d mb q L) (n : Tx) (hn : n.length ≤ 1000) :
    (Instr.lookup 79 (.map (some mb)) (.string (bs n)) false).run Tryz.prog w = .ok (.pointer ((get L n).map fun p => ⟨p.1, 0, none⟩)) w := by
  obtain ⟨v, ps, hr, hv⟩ := hD.map.lookup (string_keyed Tryz.underlying9) Tryz.underlying79 (zero71 w) (zd := .nil) (zp := []) rfl (key_is n hn)
  rw [hr]
  rw [dat_at] at hv
  congr 1
  cases hg : get L n with
  | none =>
    rw [hg] at hv
    exact RF_nil hv
  | some p =>
    rw [hg] at hv
    exact RF_at hv
/-- What find answers. -/
def findE (L : Lf) (n : Tx) (ms : List Tx) : Int := if (n :: ms).all nameOk then (if (get L n).isSome then 0 else 5) else 2
def findP (L : Lf) (n : Tx) (ms : List Tx) : Value := if (n :: ms).all nameOk then .pointer ((get L n).map fun p => ⟨p.1, 0, none⟩) else .pointer none
theorem findE_bad {L : Lf} {n : Tx} {ms : List Tx} (h : (n :: ms).all nameOk = false) : findE L n ms = 2 ∧ findP L n ms = .pointer none ∧ mayE (n :: ms) = 2 := by
  simp only [findE, findP, mayE, h, Bool.false_eq_true, ↓reduceIte, and_self]
theorem findE_none {L : Lf} {n : Tx} {ms : List Tx} (h : (n :: ms).all nameOk = true) (hg : get L n = none) : findE L n ms = 5 ∧ findP L n ms = .pointer none ∧ mayE (n :: ms) = 0 := by
  simp only [findE, findP, mayE, h, hg, Option.isSome_none, Bool.false_eq_true, ↓reduceIte, Option.map_none, and_self]
theorem findE_some {L : Lf} {n : Tx} {ms : List Tx} (h : (n :: ms).all nameOk = true) {p : Nat × Fl} (hg : get L n = some p) : findE L n ms = 0 ∧ findP L n ms = .pointer (some ⟨p.1, 0, none⟩) ∧ mayE (n :: ms) = 0 := by
  simp only [findE, findP, mayE, h, hg, Option.isSome_some, ↓reduceIte, Option.map_some, and_self]
/-- The world behind a row of two names. -/
def two (w : World) (n m : Tx) (Z : Array Value) : World := ((w.alloc (.cells #[.string (bs n)] 9)).alloc (.cells (#[.string (bs n), .string (bs m)] ++ Z) 9)).drew
theorem two_below (w : World) (n m : Tx) (Z : Array Value) : Below w.heap.size w (two w n m Z) :=
  (((Below.refl w.heap.size w).alloc (Nat.le_refl _) _).alloc (by simp) _).drew
theorem two_names (w : World) (n m : Tx) (Z : Array Value) : Names (two w n m Z) (some ⟨w.heap.size + 1, 0, none⟩) [n, m] := fun j h => by
  have hb : (two w n m Z).heap[w.heap.size + 1]? = some (.cells (#[.string (bs n), .string (bs m)] ++ Z) 9) := by
    have := heap_alloc_new (w.alloc (.cells #[.string (bs n)] 9)) (.cells (#[.string (bs n), .string (bs m)] ++ Z) 9)
    rw [World.size_alloc] at this
    exact this
  have hj : j = 0 ∨ j = 1 := by simp at h; omega
  rcases hj with rfl | rfl
  · exact ⟨_, rfl, by simp [World.cell?, Addr.add, hb, encS, Array.getElem?_append]⟩
  · exact ⟨_, rfl, by simp [World.cell?, Addr.add, hb, encS, Array.getElem?_append]⟩
/-- find, behind may. -/
theorem find0_calls (w : World) {base d mb q : Nat} {L : Lf} (hD : IsD w base d mb q L) (n : Tx) :
    Calls Tryz.prog 72 #[.pointer (some ⟨d, 0, none⟩), .string (bs n), .slice none 0 0] w fun e w' => e = .returned (.tuple #[findP L n [], .int .i64 (findE L n [])]) ∧ Below w.heap.size w w' := by
  have HM := Lib.hid (may_calls (w.alloc (.cells #[.string (bs n)] 9)) (hD.alloc _) (some ⟨w.heap.size, 0, none⟩) 1 [n] (by simp) (fun j h => by
    have : j = 0 := by simpa using h
    subst this
    exact ⟨_, rfl, by simp [encS, cell_one_new]⟩))
  have HB1 := Lib.hid ((Below.refl w.heap.size w).alloc (Nat.le_refl _) (.cells #[.string (bs n)] 9))
  have HDb := Lib.hid hD
  clear hD
  go_enter Tryz.func72, Tryz.ntmps72
  go_wp2_with fail
  refine HM.out.mono ?_
  rintro e w2 ⟨rfl, hB2⟩
  have HB2 := Lib.hid (HB1.out.trans (hB2.mono HB1.out.size))
  have HD2 := Lib.hid (HDb.out.below HB2.out)
  clear hB2 HM HB1 HDb
  have hq := HD2.out.q1
  cases hok : [n].all nameOk with
  | false =>
    obtain ⟨h1, h2, h3⟩ := findE_bad (L := L) hok
    rw [h3]
    have H1 := Lib.hid h1
    have H2 := Lib.hid h2
    clear h1 h2 h3
    go_wp2_with fail
    go_ret2
    exact ⟨by rw [H1.out, H2.out]; rfl, HB2.out⟩
  | true =>
    have hn : n.length ≤ 1000 := by have := nameOk_len (show nameOk n = true by simpa using hok); omega
    have hlk := look_is w2 HD2.out n hn
    cases hg : get L n with
    | none =>
      obtain ⟨h1, h2, h3⟩ := findE_none hok hg
      rw [h3]
      have H1 := Lib.hid h1
      have H2 := Lib.hid h2
      rw [hg] at hlk
      clear h1 h2 h3 hg
      go_wp2_with fail
      go_ret2
      exact ⟨by rw [H1.out, H2.out]; rfl, HB2.out⟩
    | some p =>
      obtain ⟨h1, h2, h3⟩ := findE_some hok hg
      rw [h3]
      have H1 := Lib.hid h1
      have H2 := Lib.hid h2
      rw [hg] at hlk
      clear h1 h2 h3 hg
      go_wp2_with fail
      go_ret2
      exact ⟨by rw [H1.out, H2.out]; rfl, HB2.out⟩
/-- find, behind may. -/
theorem find1_calls (w : World) {base d mb q : Nat} {L : Lf} (hD : IsD w base d mb q L) (n m : Tx) (ad : Addr) (hm : w.cell? ad = some (encS m)) :
    Calls Tryz.prog 72 #[.pointer (some ⟨d, 0, none⟩), .string (bs n), .slice (some ad) 1 1] w fun e w' => e = .returned (.tuple #[findP L n [m], .int .i64 (findE L n [m])]) ∧ Below w.heap.size w w' := by
  have HB1 := Lib.hid (two_below w n m)
  have HM := Lib.hid (fun (cap : Nat) (Z : Array Value) => may_calls (two w n m Z) (hD.below (HB1.out Z)) (some ⟨w.heap.size + 1, 0, none⟩) cap [n, m] (by simp) (two_names w n m Z))
  have HDb := Lib.hid hD
  have hma : (w.alloc (.cells #[.string (bs n)] 9)).cell? ad = some (.string (bs m)) := cell_below hm ((Below.refl _ w).alloc (Nat.le_refl _) _)
  clear hD hm
  go_enter Tryz.func72, Tryz.ntmps72
  go_wp2_with fail
  refine (HM.out _ _).mono ?_
  rintro e w2 ⟨rfl, hB2⟩
  have HB2 := Lib.hid ((HB1.out _).trans (hB2.mono (HB1.out _).size))
  have HD2 := Lib.hid (HDb.out.below HB2.out)
  clear hB2 HM HB1 HDb
  have hq := HD2.out.q1
  cases hok : [n, m].all nameOk with
  | false =>
    obtain ⟨h1, h2, h3⟩ := findE_bad (L := L) (ms := [m]) hok
    rw [h3]
    have H1 := Lib.hid h1
    have H2 := Lib.hid h2
    clear h1 h2 h3
    go_wp2_with fail
    go_ret2
    exact ⟨by rw [H1.out, H2.out]; rfl, HB2.out⟩
  | true =>
    have hn : n.length ≤ 1000 := by have := nameOk_len (show nameOk n = true by simp at hok; exact hok.1); omega
    have hlk := look_is w2 HD2.out n hn
    cases hg : get L n with
    | none =>
      obtain ⟨h1, h2, h3⟩ := findE_none hok hg
      rw [h3]
      have H1 := Lib.hid h1
      have H2 := Lib.hid h2
      rw [hg] at hlk
      clear h1 h2 h3 hg
      go_wp2_with fail
      go_ret2
      exact ⟨by rw [H1.out, H2.out]; rfl, HB2.out⟩
    | some p =>
      obtain ⟨h1, h2, h3⟩ := findE_some hok hg
      rw [h3]
      have H1 := Lib.hid h1
      have H2 := Lib.hid h2
      rw [hg] at hlk
      clear h1 h2 h3 hg
      go_wp2_with fail
      go_ret2
      exact ⟨by rw [H1.out, H2.out]; rfl, HB2.out⟩
end Go.Proofs.YtbffgpfkgmhmhaaGreatDoor.Dw
/- The disk's small calls: New, Read, Synced, Sync, Remove, Create, Rename (functions 6, 9, 10, 39, 33, 30, 32). -/
set_option linter.unusedVariables false
set_option linter.unusedSimpArgs false
namespace Go.Proofs.YtbffgpfkgmhmhaaGreatDoor.Dw
open Go.RowKit Go.Maps Go.Proofs.YtbffgpfkgmhmhaaGreatDoorW.PrintWords Go.Proofs.YtbffgpfkgmhmhaaGreatDoorW.PrintLast Go.Proofs.YtbffgpfkgmhmhaaGreatDoorW.PrintMore Go.Proofs.Dk
set_option maxRecDepth 100000
abbrev fs (L : Lf) : FS := vals (·.2) L
theorem fs_get (L : Lf) (n : Tx) : get (fs L) n = (get L n).map (·.2) := vals_get _ _ _
theorem IsD.sorted {w : World} {base d mb q : Nat} {L : Lf} (h : IsD w base d mb q L) : Sorted L := sorted_of_keys h.ok.sorted (vals_keys (·.2) L).symm
theorem IsD.f0 {w : World} {base d mb q : Nat} {L : Lf} (h : IsD w base d mb q L) {n : Tx} {p : Nat × Fl} (hg : get L n = some p) : w.cell? ⟨p.1, 0, none⟩ = some (.string (bs p.2.b)) := by
  have := h.file _ (get_mem hg)
  simp only [fcells] at this
  simp [World.cell?, this]
theorem IsD.f1 {w : World} {base d mb q : Nat} {L : Lf} (h : IsD w base d mb q L) {n : Tx} {p : Nat × Fl} (hg : get L n = some p) : w.cell? ⟨p.1, 1, none⟩ = some (.int .i64 p.2.s) := by
  have := h.file _ (get_mem hg)
  simp only [fcells] at this
  simp [World.cell?, this]
theorem fe_bad (L : Lf) {n : Tx} (h : nameOk n = false) : findE L n [] = 2 ∧ findP L n [] = .pointer none := by
  obtain ⟨a, b, _⟩ := findE_bad (L := L) (n := n) (ms := []) (by simp [h])
  exact ⟨a, b⟩
theorem fe_none {L : Lf} {n : Tx} (h : nameOk n = true) (hg : get L n = none) : findE L n [] = 5 ∧ findP L n [] = .pointer none := by
  obtain ⟨a, b, _⟩ := findE_none (L := L) (n := n) (ms := []) (by simp [h]) hg
  exact ⟨a, b⟩
theorem fe_some {L : Lf} {n : Tx} (h : nameOk n = true) {p : Nat × Fl} (hg : get L n = some p) : findE L n [] = 0 ∧ findP L n [] = .pointer (some ⟨p.1, 0, none⟩) := by
  obtain ⟨a, b, _⟩ := findE_some (L := L) (n := n) (ms := []) (by simp [h]) hg
  exact ⟨a, b⟩
theorem read_bad (l : FS) {n : Tx} (h : nameOk n = false) : read l n = ([], 2) ∧ synced l n = 0 ∧ sync l n = (l, 2) ∧ remove l n = (l, 2) ∧ create l n = (l, 2) := by
  simp [Dk.read, Dk.synced, Dk.sync, Dk.remove, Dk.create, h]
theorem read_none {L : Lf} {n : Tx} (h : nameOk n = true) (hg : get L n = none) : read (fs L) n = ([], 5) ∧ synced (fs L) n = 0 ∧ sync (fs L) n = (fs L, 5) ∧ remove (fs L) n = (fs L, 5) := by
  have := fs_get L n
  rw [hg] at this
  simp [Dk.read, Dk.synced, Dk.sync, Dk.remove, h, this]
theorem read_some {L : Lf} {n : Tx} (h : nameOk n = true) {p : Nat × Fl} (hg : get L n = some p) : read (fs L) n = (p.2.b, 0) ∧ synced (fs L) n = p.2.s ∧ sync (fs L) n = (upd (fs L) n (fun f => ⟨f.b, f.b.length⟩), 0) ∧ remove (fs L) n = (del (fs L) n, 0) ∧ create (fs L) n = (fs L, 6) := by
  have := fs_get L n
  rw [hg] at this
  simp [Dk.read, Dk.synced, Dk.sync, Dk.remove, Dk.create, h, this]
theorem read_calls (w : World) {base d mb q : Nat} {L : Lf} (hD : IsD w base d mb q L) (n : Tx) :
    Calls Tryz.prog 26 #[.pointer (some ⟨d, 0, none⟩), .string (bs n)] w fun e w' => e = .returned (.tuple #[.string (bs (read (fs L) n).1), .int .i64 ((read (fs L) n).2 : Int)]) ∧ Below w.heap.size w w' := by
  have HF := Lib.hid (find0_calls w hD n)
  have HD := Lib.hid hD
  clear hD
  go_enter Tryz.func26, Tryz.ntmps26
  go_wp2_with fail
  refine HF.out.mono ?_
  rintro e w2 ⟨rfl, hB2⟩
  have HB2 := Lib.hid hB2
  have HD2 := Lib.hid (HD.out.below HB2.out)
  clear hB2 HF HD
  cases hok : nameOk n with
  | false =>
    obtain ⟨h1, h2⟩ := fe_bad L hok
    have hr := Lib.hid (read_bad (fs L) hok).1
    rw [h1, h2]
    clear h1 h2 hok
    go_wp2_with fail
    go_ret2
    exact ⟨by rw [hr.out]; rfl, HB2.out⟩
  | true =>
    cases hg : get L n with
    | none =>
      obtain ⟨h1, h2⟩ := fe_none hok hg
      have hr := Lib.hid (read_none hok hg).1
      rw [h1, h2]
      clear h1 h2 hok hg
      go_wp2_with fail
      go_ret2
      exact ⟨by rw [hr.out]; rfl, HB2.out⟩
    | some p =>
      obtain ⟨h1, h2⟩ := fe_some hok hg
      have hr := Lib.hid (read_some hok hg).1
      have c0 := HD2.out.f0 hg
      rw [h1, h2]
      clear h1 h2 hok hg
      go_wp2_with fail
      go_ret2
      exact ⟨by rw [hr.out]; rfl, HB2.out⟩
/-! ### what a store turns -/
theorem apart_ne {L : Lf} (h : L.Pairwise fun x y => x.2.1 ≠ y.2.1) {x y : Tx × (Nat × Fl)} (hx : x ∈ L) (hy : y ∈ L) (hne : x.1 ≠ y.1) : x.2.1 ≠ y.2.1 := by
  induction L with
  | nil => cases hx
  | cons z r ih =>
    rw [List.pairwise_cons] at h
    rcases List.mem_cons.1 hx with e1 | hx1
    · rcases List.mem_cons.1 hy with e2 | hy1
      · exact absurd (by rw [e1, e2]) hne
      · rw [e1]; exact h.1 y hy1
    · rcases List.mem_cons.1 hy with e2 | hy1
      · rw [e2]; exact (h.1 x hx1).symm
      · exact ih h.2 hx1 hy1
theorem upd_blocks (L : Lf) (n : Tx) (g : Nat × Fl → Nat × Fl) (hg : ∀ x, (g x).1 = x.1) : (upd L n g).map (fun x => x.2.1) = L.map (fun x => x.2.1) := by
  simp only [upd, List.map_map]
  apply List.map_congr_left
  intro x _
  simp only [Function.comp_apply]
  split
  · exact hg x.2
  · rfl
theorem dat_upd (L : Lf) (n : Tx) (g : Nat × Fl → Nat × Fl) (hg : ∀ x, (g x).1 = x.1) : dat blk (upd L n g) = dat blk L := by
  simp only [dat, upd, List.map_map]
  congr 1
  apply List.map_congr_left
  intro x _
  simp only [Function.comp_apply]
  split
  · simp only [blk, hg]
  · rfl
theorem fs_upd (L : Lf) (n : Tx) (g : Fl → Fl) : fs (upd L n (fun x => (x.1, g x.2))) = upd (fs L) n g := by
  simp only [vals, upd, List.map_map]
  apply List.map_congr_left
  intro x _
  simp only [Function.comp_apply]
  split <;> rfl
theorem IsD.turn {w w' : World} {base d mb q : Nat} {L : Lf} (h : IsD w base d mb q L) {n : Tx} {p : Nat × Fl} (hg : get L n = some p) (g : Fl → Fl) (hb : w'.heap[p.1]? = some (.cells (fcells (g p.2)) 143))
    (hs : ∀ k, k ≠ p.1 → w'.heap[k]? = w.heap[k]?) (hok : Ok q (upd (fs L) n g)) : IsD w' base d mb q (upd L n (fun x => (x.1, g x.2))) where
  top := by
    have hne : d ≠ p.1 := fun e => by
      have h1 := h.top
      rw [e, h.file _ (get_mem hg)] at h1
      cases h1
    rw [hs d hne]; exact h.top
  dlow := h.dlow
  map := by
    obtain ⟨es, clock, hm, F, hn, hD⟩ := h.map
    have hne : mb ≠ p.1 := fun e => by
      rw [e, h.file _ (get_mem hg)] at hm
      cases hm
    exact ⟨es, clock, by rw [hs mb hne]; exact hm, F, by rw [upd_len]; exact hn, by rw [dat_upd L n (fun x => (x.1, g x.2)) (fun _ => rfl)]; exact hD⟩
  mlow := h.mlow
  file := fun r hr => by
    rcases mem_upd hr with ⟨hr, hne⟩ | ⟨v, hv, rfl⟩
    · rw [hs _ (apart_ne h.apart hr (get_mem hg) hne)]
      exact h.file r hr
    · have := get_of_mem h.sorted hv
      rw [hg] at this
      cases this
      exact hb
  flow := fun r hr => by
    rcases mem_upd hr with ⟨hr, hne⟩ | ⟨v, hv, rfl⟩
    · exact h.flow r hr
    · exact h.flow (n, v) hv
  apart := by
    have h1 : (L.map (fun x => x.2.1)).Pairwise (· ≠ ·) := by rw [List.pairwise_map]; exact h.apart
    rw [← upd_blocks L n (fun x => (x.1, g x.2)) (fun _ => rfl), List.pairwise_map] at h1
    exact h1
  ok := by
    have := fs_upd L n g
    rw [show vals (·.2) (upd L n (fun x => (x.1, g x.2))) = fs (upd L n (fun x => (x.1, g x.2))) from rfl, this]
    exact hok
theorem set_file {w : World} {b : Nat} {f : Fl} (h : w.heap[b]? = some (.cells (fcells f) 143)) (s : Nat) : (w.setCell ⟨b, 1, none⟩ (.int .i64 s)).heap[b]? = some (.cells (fcells ⟨f.b, s⟩) 143) := by
  rw [Go.Joins.block_setCell h]
  rfl
theorem set_file0 {w : World} {b : Nat} {f : Fl} (h : w.heap[b]? = some (.cells (fcells f) 143)) (l : Tx) : (w.setCell ⟨b, 0, none⟩ (.string (bs l))).heap[b]? = some (.cells (fcells ⟨l, f.s⟩) 143) := by
  rw [Go.Joins.block_setCell h]
  rfl
/-- Of what lay there, none but the map and the disk's files were written; a new file lies in a new block. -/
structure Turn (w w' : World) (mb : Nat) (L L' : Lf) : Prop where
  apt : ∀ k, k < w.heap.size → k ≠ mb → (∀ p ∈ L, k ≠ p.2.1) → w'.heap[k]? = w.heap[k]?
  size : w.heap.size ≤ w'.heap.size
  news : ∀ r ∈ L', (∃ p ∈ L, r.2.1 = p.2.1) ∨ w.heap.size ≤ r.2.1
theorem Turn.of_below {w w' : World} (h : Below w.heap.size w w') (mb : Nat) (L : Lf) : Turn w w' mb L L :=
  ⟨fun k hk _ _ => h.block k hk, h.size, fun r hr => Or.inl ⟨r, hr, rfl⟩⟩
theorem Turn.trans {w w1 w2 : World} {mb : Nat} {L L1 L2 : Lf} (h : Turn w w1 mb L L1) (h2 : Turn w1 w2 mb L1 L2) : Turn w w2 mb L L2 where
  apt := fun k hk hm hn => (h2.apt k (Nat.lt_of_lt_of_le hk h.size) hm (fun p hp e => by
    rcases h.news p hp with ⟨r, hr, e2⟩ | h3
    · exact hn r hr (e.trans e2)
    · omega)).trans (h.apt k hk hm hn)
  size := Nat.le_trans h.size h2.size
  news := fun r hr => by
    rcases h2.news r hr with ⟨p, hp, e⟩ | h3
    · rw [e]; exact h.news p hp
    · exact Or.inr (Nat.le_trans h.size h3)
theorem Turn.then_below {w w1 w2 : World} {mb : Nat} {L L1 : Lf} (h : Turn w w1 mb L L1) (h2 : Below w1.heap.size w1 w2) : Turn w w2 mb L L1 := h.trans (.of_below h2 mb L1)
theorem Turn.set {w w1 : World} {mb : Nat} {L L1 : Lf} (h : Turn w w1 mb L L1) {b : Nat} (hb : ∃ p ∈ L1, b = p.2.1) (j : Nat) (v : Value) : Turn w (w1.setCell ⟨b, j, none⟩ v) mb L L1 where
  apt := fun k hk hm hn => (Below.heap_setCell _ _ _ _ (fun e => by
    obtain ⟨p, hp, e2⟩ := hb
    dsimp only at e
    rcases h.news p hp with ⟨r, hr, e3⟩ | h3
    · exact hn r hr (by omega)
    · omega)).trans (h.apt k hk hm hn)
  size := by simp only [World.setCell, Array.size_modify]; exact h.size
  news := h.news
theorem Turn.list {w w1 : World} {mb : Nat} {L L1 L2 : Lf} (h : Turn w w1 mb L L1) (hn : ∀ r ∈ L2, (∃ p ∈ L1, r.2.1 = p.2.1) ∨ w.heap.size ≤ r.2.1) : Turn w w1 mb L L2 :=
  ⟨h.apt, h.size, fun r hr => by
    rcases hn r hr with ⟨p, hp, e⟩ | h3
    · rw [e]; exact h.news p hp
    · exact Or.inr h3⟩
theorem Turn.upd {w w1 : World} {mb : Nat} {L L1 : Lf} (h : Turn w w1 mb L L1) (n : Tx) (g : Fl → Fl) : Turn w w1 mb L (upd L1 n (fun x => (x.1, g x.2))) :=
  h.list fun r hr => by
    have h1 := List.mem_map_of_mem (f := fun x : Tx × (Nat × Fl) => x.2.1) hr
    rw [upd_blocks L1 n (fun x => (x.1, g x.2)) (fun _ => rfl)] at h1
    obtain ⟨p, hp, e⟩ := List.mem_map.1 h1
    exact Or.inl ⟨p, hp, e.symm⟩
/-- The same, and which blocks were written. -/
def DidT (w : World) (base d mb q : Nat) (L : Lf) (r : FS × Nat) (e : Ending) (w' : World) : Prop :=
  e = .returned (.int .i64 (r.2 : Int)) ∧ Below base w w' ∧ ∃ L', fs L' = r.1 ∧ IsD w' base d mb q L' ∧ Turn w w' mb L L'
theorem IsD.size {w : World} {base d mb q : Nat} {L : Lf} (h : IsD w base d mb q L) : base ≤ w.heap.size := by
  have := heap_lt h.top
  have := h.dlow
  omega
theorem turned_mem {L : Lf} {n : Tx} {p : Nat × Fl} (hg : get L n = some p) (g : Fl → Fl) : (n, (p.1, g p.2)) ∈ upd L n (fun x => (x.1, g x.2)) := by
  refine get_mem ?_
  rw [get_upd, if_pos rfl, hg]
  rfl
set_option maxHeartbeats 1000000 in
theorem sync_full (w : World) {base d mb q : Nat} {L : Lf} (hD : IsD w base d mb q L) (n : Tx) :
    Calls Tryz.prog 66 #[.pointer (some ⟨d, 0, none⟩), .string (bs n)] w (DidT w base d mb q L (sync (fs L) n)) := by
  have HF := Lib.hid (find0_calls w hD n)
  have HD := Lib.hid hD
  clear hD
  go_enter Tryz.func66, Tryz.ntmps66
  go_wp2_with fail
  refine HF.out.mono ?_
  rintro e w2 ⟨rfl, hB2⟩
  have HB2 := Lib.hid hB2
  have HD2 := Lib.hid (HD.out.below HB2.out)
  have HB3 := Lib.hid (HB2.out.mono HD.out.size)
  clear hB2 HF
  cases hok : nameOk n with
  | false =>
    obtain ⟨h1, h2⟩ := fe_bad L hok
    have hr := Lib.hid (read_bad (fs L) hok).2.2.1
    rw [h1, h2]
    clear h1 h2 hok
    go_wp2_with fail
    go_ret
    exact ⟨by rw [hr.out]; rfl, HB3.out, L, by rw [hr.out], HD2.out, .of_below HB2.out mb L⟩
  | true =>
    cases hg : get L n with
    | none =>
      obtain ⟨h1, h2⟩ := fe_none hok hg
      have hr := Lib.hid (read_none hok hg).2.2.1
      rw [h1, h2]
      clear h1 h2 hok hg
      go_wp2_with fail
      go_ret
      exact ⟨by rw [hr.out]; rfl, HB3.out, L, by rw [hr.out], HD2.out, .of_below HB2.out mb L⟩
    | some p =>
      obtain ⟨h1, h2⟩ := fe_some hok hg
      have hr := Lib.hid (read_some hok hg).2.2.1
      have c0 := HD2.out.f0 hg
      have c1 := HD2.out.f1 hg
      have hfr := blk_frozen (HD2.out.file _ (get_mem hg)) 1
      have hsz := bs_size p.2.b
      have HG := Lib.hid hg
      have HO := Lib.hid hok
      have hlow := HD2.out.flow _ (get_mem hg)
      rw [h1, h2]
      clear h1 h2 hok hg
      go_wp2_with fail
      go_ret
      refine ⟨by rw [hr.out]; rfl, HB3.out.setCell hlow _, upd L n (fun x => (x.1, ⟨x.2.b, x.2.b.length⟩)), ?_, ?_⟩
      · rw [hr.out]; exact fs_upd L n (fun f => ⟨f.b, f.b.length⟩)
      · have hk := HD2.out.ok.sync n
        have hg2 := fs_get L n
        rw [HG.out] at hg2
        have hsy : sync (fs L) n = (upd (fs L) n (fun f => ⟨f.b, f.b.length⟩), 0) := hr.out
        rw [hsy] at hk
        refine ⟨HD2.out.turn HG.out (fun f => ⟨f.b, f.b.length⟩) (set_file (HD2.out.file _ (get_mem HG.out)) _) (fun k hk => Below.heap_setCell _ _ _ _ hk) hk, ?_⟩
        exact ((Turn.of_below HB2.out mb L).upd n (fun f => ⟨f.b, f.b.length⟩)).set ⟨_, turned_mem HG.out (fun f => ⟨f.b, f.b.length⟩), rfl⟩ _ _
/-! ### what a turn of the map turns -/
theorem tight {w : World} {b n : Nat} {D : DataW Nat} (h : w.ownsMap Tryz.prog 9 RF b n D) : w.ownsMap Tryz.prog 9 RF b (Maps.size D) D := by
  obtain ⟨es, clock, hb, F, hn, rfl⟩ := h
  exact ⟨es, clock, hb, F, by simp [Maps.size, length_sorted], rfl⟩
theorem IsD.remap {w w' : World} {base d mb q : Nat} {L L' : Lf} (h : IsD w base d mb q L) {m : Nat} (hm : w'.ownsMap Tryz.prog 9 RF mb m (dat blk L')) (hs : ∀ k o, k ≠ mb → w.heap[k]? = some o → w'.heap[k]? = some o)
    (hf : ∀ r ∈ L', w'.heap[r.2.1]? = some (.cells (fcells r.2.2) 143) ∧ base ≤ r.2.1) (ha : L'.Pairwise fun x y => x.2.1 ≠ y.2.1) (ok : Ok q (fs L')) : IsD w' base d mb q L' where
  top := by
    obtain ⟨es, clock, hb, _⟩ := h.map
    refine hs d _ (fun e => ?_) h.top
    have h1 := h.top
    rw [e, hb] at h1
    cases h1
  dlow := h.dlow
  map := by have := tight hm; rw [dat_size] at this; exact this
  mlow := h.mlow
  file := fun r hr => (hf r hr).1
  flow := fun r hr => (hf r hr).2
  apart := ha
  ok := ok
theorem IsD.ne_mb {w : World} {base d mb q : Nat} {L : Lf} (h : IsD w base d mb q L) {r : Tx × (Nat × Fl)} (hr : r ∈ L) : r.2.1 ≠ mb := fun e => by
  obtain ⟨es, clock, hb, _⟩ := h.map
  have h1 := h.file r hr
  rw [e, hb] at h1
  cases h1
theorem turned_other {w w' : World} {mb : Nat} (h : w.mapTurned w' mb) (k : Nat) (o : Obj) (hk : k ≠ mb) (ho : w.heap[k]? = some o) : w'.heap[k]? = some o := by
  obtain ⟨es, clock, es', clock', hb, rfl⟩ := h
  rw [ChangeMaps.heap_setBlock_other hb _ hk]
  exact ho
theorem Turn.turned {w w1 w2 : World} {mb : Nat} {L L1 : Lf} (h : Turn w w1 mb L L1) (ht : w1.mapTurned w2 mb) : Turn w w2 mb L L1 where
  apt := fun k hk hm hn => by
    obtain ⟨o, ho⟩ : ∃ o, w1.heap[k]? = some o := ⟨_, Array.getElem?_eq_getElem (Nat.lt_of_lt_of_le hk h.size)⟩
    exact ((turned_other ht k o hm ho).trans ho.symm).trans (h.apt k hk hm hn)
  size := Nat.le_trans h.size ht.grown.size
  news := h.news
theorem Turn.del {w w1 : World} {mb : Nat} {L L1 : Lf} (h : Turn w w1 mb L L1) (n : Tx) : Turn w w1 mb L (del L1 n) :=
  h.list fun r hr => Or.inl ⟨r, ((mem_del _ _ _).1 hr).1, rfl⟩
theorem Turn.put {w w1 : World} {mb : Nat} {L L1 : Lf} (h : Turn w w1 mb L L1) (n : Tx) (p : Nat × Fl) (hp : (∃ r ∈ L1, p.1 = r.2.1) ∨ w.heap.size ≤ p.1) : Turn w w1 mb L (put L1 n p) :=
  h.list fun r hr => by
    rcases (mem_ins _ _ _).1 hr with rfl | hr
    · exact hp
    · exact Or.inl ⟨r, ((mem_del _ _ _).1 hr).1, rfl⟩
theorem fs_del (L : Lf) (n : Tx) : fs (del L n) = del (fs L) n := vals_del _ _ _
theorem fs_put (L : Lf) (n : Tx) (p : Nat × Fl) : fs (put L n p) = put (fs L) n p.2 := vals_put _ _ _ _
theorem IsD.dropped {w w' : World} {base d mb q : Nat} {L : Lf} (h : IsD w base d mb q L) (n : Tx) {m : Nat} (hm : w'.ownsMap Tryz.prog 9 RF mb m ((dat blk L).del (.string n))) (ht : w.mapTurned w' mb) : IsD w' base d mb q (del L n) := by
  rw [dat_del] at hm
  refine h.remap hm (turned_other ht) (fun r hr => ?_) (List.Pairwise.filter _ h.apart) (by rw [fs_del]; exact h.ok.del n)
  have hr1 := ((mem_del _ _ _).1 hr).1
  exact ⟨turned_other ht _ _ (h.ne_mb hr1) (h.file r hr1), h.flow r hr1⟩
theorem apart_ins {x : Tx × (Nat × Fl)} : ∀ {L : Lf}, (L.Pairwise fun x y => x.2.1 ≠ y.2.1) → (∀ r ∈ L, r.2.1 ≠ x.2.1) → (ins x L).Pairwise fun x y => x.2.1 ≠ y.2.1
  | [], _, _ => by simp [ins]
  | y :: r, h, hx => by
    rw [List.pairwise_cons] at h
    unfold ins
    split
    · rw [List.pairwise_cons]
      refine ⟨fun z hz => (hx z hz).symm, ?_⟩
      rw [List.pairwise_cons]
      exact h
    · rw [List.pairwise_cons]
      refine ⟨fun z hz => ?_, apart_ins h.2 (fun z hz => hx z (List.mem_cons_of_mem _ hz))⟩
      rcases (mem_ins _ _ _).1 hz with rfl | hz
      · exact hx y (List.mem_cons_self ..)
      · exact h.1 z hz
theorem IsD.stored {w w' : World} {base d mb q : Nat} {L : Lf} (h : IsD w base d mb q L) (n : Tx) (p : Nat × Fl) {m : Nat} (hm : w'.ownsMap Tryz.prog 9 RF mb m ((dat blk L).put (.string n) (blk p))) (ht : w.mapTurned w' mb)
    (hp : w.heap[p.1]? = some (.cells (fcells p.2) 143)) (hlow : base ≤ p.1) (hap : ∀ r ∈ L, r.2.1 ≠ p.1) (ok : Ok q (put (fs L) n p.2)) : IsD w' base d mb q (put L n p) := by
  rw [dat_put] at hm
  have hne : p.1 ≠ mb := fun e => by
    obtain ⟨es, clock, hb, _⟩ := h.map
    rw [e, hb] at hp
    cases hp
  refine h.remap hm (turned_other ht) (fun r hr => ?_) (apart_ins (List.Pairwise.filter _ h.apart) (fun r hr => hap r ((mem_del _ _ _).1 hr).1)) (by rw [fs_put]; exact ok)
  rcases (mem_ins _ _ _).1 hr with rfl | hr
  · exact ⟨turned_other ht _ _ hne hp, hlow⟩
  · have hr1 := ((mem_del _ _ _).1 hr).1
    exact ⟨turned_other ht _ _ (h.ne_mb hr1) (h.file r hr1), h.flow r hr1⟩
theorem below_turned {w W w' : World} {base mb : Nat} (h : Below base w W) (ht : W.mapTurned w' mb) (hm : base ≤ mb) (hb : base ≤ W.heap.size) : Below base w w' :=
  h.grown ht.grown hb (fun k e => by cases e; exact hm)
theorem law9 : Keyed Tryz.prog 9 := string_keyed Tryz.underlying9
set_option maxHeartbeats 1000000 in
theorem remove_full (w : World) {base d mb q : Nat} {L : Lf} (hD : IsD w base d mb q L) (n : Tx) :
    Calls Tryz.prog 127 #[.pointer (some ⟨d, 0, none⟩), .string (bs n)] w (DidT w base d mb q L (remove (fs L) n)) := by
  have HF := Lib.hid (find0_calls w hD n)
  have HD := Lib.hid hD
  clear hD
  go_enter Tryz.func127, Tryz.ntmps127
  go_wp2_with fail
  refine HF.out.mono ?_
  rintro e w2 ⟨rfl, hB2⟩
  have HB2 := Lib.hid hB2
  have HD2 := Lib.hid (HD.out.below HB2.out)
  have HB3 := Lib.hid (HB2.out.mono HD.out.size)
  clear hB2 HF
  cases hok : nameOk n with
  | false =>
    obtain ⟨h1, h2⟩ := fe_bad L hok
    have hr := Lib.hid (read_bad (fs L) hok).2.2.2.1
    rw [h1, h2]
    clear h1 h2 hok
    go_wp2_with fail
    go_ret
    exact ⟨by rw [hr.out]; rfl, HB3.out, L, by rw [hr.out], HD2.out, .of_below HB2.out mb L⟩
  | true =>
    cases hg : get L n with
    | none =>
      obtain ⟨h1, h2⟩ := fe_none hok hg
      have hr := Lib.hid (read_none hok hg).2.2.2
      rw [h1, h2]
      clear h1 h2 hok hg
      go_wp2_with fail
      go_ret
      exact ⟨by rw [hr.out]; rfl, HB3.out, L, by rw [hr.out], HD2.out, .of_below HB2.out mb L⟩
    | some p =>
      obtain ⟨h1, h2⟩ := fe_some hok hg
      have hr := Lib.hid (read_some hok hg).2.2.2.1
      have hn : n.length ≤ 1000 := by have := nameOk_len hok; omega
      have hq1 := HD2.out.q1
      rw [h1, h2]
      clear h1 h2 hok hg
      go_wp2_with (first | (at_delete; refine wpList_delete_own _ rfl _ _ 79 9 rfl 139 law9 Tryz.underlying79 RF mb _ _ rfl HD2.out.map _ _ rfl (key_is n hn) ?_; intro w3 hown3 hturn3; have HM3 := Lib.hid hown3; have HT3 := Lib.hid hturn3; clear hown3 hturn3))
      go_ret
      refine ⟨by rw [hr.out]; rfl, below_turned HB3.out HT3.out HD2.out.mlow HD2.out.size, del L n, by rw [hr.out]; exact fs_del L n, HD2.out.dropped n HM3.out HT3.out, ((Turn.of_below HB2.out mb L).turned HT3.out).del n⟩
end Go.Proofs.YtbffgpfkgmhmhaaGreatDoor.Dw
/- New, Create, Rename (functions 6, 30, 32). -/
set_option linter.unusedVariables false
set_option linter.unusedSimpArgs false
namespace Go.Proofs.YtbffgpfkgmhmhaaGreatDoor.Dw
open Go.RowKit Go.Maps Go.Proofs.YtbffgpfkgmhmhaaGreatDoorW.PrintWords Go.Proofs.YtbffgpfkgmhmhaaGreatDoorW.PrintLast Go.Proofs.YtbffgpfkgmhmhaaGreatDoorW.PrintMore Go.Proofs.Dk
set_option maxRecDepth 100000
theorem new_ok (w : World) (q : Nat) (h : 1 ≤ q ∧ q ≤ 1048576) :
    Calls Tryz.prog 9 #[.int .i64 q] w fun e w' => ∃ d mb, e = .returned (.pointer (some ⟨d, 0, none⟩)) ∧ IsD w' w.heap.size d mb q [] ∧ Below w.heap.size w w' := by
  have d1 : decide ((q : Int) < 1) = false := decide_eq_false (by omega)
  have d2 : decide ((1048576 : Int) < (q : Int)) = false := decide_eq_false (by omega)
  have hmm := @run_makeMap Tryz.prog
  go_enter Tryz.func9, Tryz.ntmps9
  go_wp2
  go_ret
  refine ⟨w.heap.size + 1, w.heap.size, rfl, ?_, ((Below.refl _ w).alloc (Nat.le_refl _) _).alloc (by simp) _⟩
  have hm := (World.ownsMap_made w Tryz.prog 9 RF).alloc (.cells #[.int .i64 q, .map (some w.heap.size)] 81)
  exact {
    top := by have := heap_alloc_new (w.alloc (.map #[] 0)) (.cells #[.int .i64 q, .map (some w.heap.size)] 81); rw [World.size_alloc] at this; exact this
    dlow := by omega
    map := hm
    mlow := Nat.le_refl _
    file := by simp
    flow := by simp
    apart := List.Pairwise.nil
    ok := Ok.new h }
theorem create_none {L : Lf} {n : Tx} (h : nameOk n = true) (hg : get L n = none) : create (fs L) n = if 64 ≤ L.length then (fs L, 7) else (put (fs L) n ⟨[], 0⟩, 0) := by
  have := fs_get L n
  rw [hg] at this
  simp [Dk.create, h, this, vals_len]
set_option maxHeartbeats 1000000 in
theorem create_full (w : World) {base d mb q : Nat} {L : Lf} (hD : IsD w base d mb q L) (n : Tx) :
    Calls Tryz.prog 101 #[.pointer (some ⟨d, 0, none⟩), .string (bs n)] w (DidT w base d mb q L (create (fs L) n)) := by
  have HF := Lib.hid (find0_calls w hD n)
  have HD := Lib.hid hD
  clear hD
  go_enter Tryz.func101, Tryz.ntmps101
  go_wp2_with fail
  refine HF.out.mono ?_
  rintro e w2 ⟨rfl, hB2⟩
  have HB2 := Lib.hid hB2
  have HD2 := Lib.hid (HD.out.below HB2.out)
  have HB3 := Lib.hid (HB2.out.mono HD.out.size)
  clear hB2 HF
  cases hok : nameOk n with
  | false =>
    obtain ⟨h1, h2⟩ := fe_bad L hok
    have hr := Lib.hid (read_bad (fs L) hok).2.2.2.2
    rw [h1, h2]
    clear h1 h2 hok
    go_wp2_with fail
    go_ret
    exact ⟨by rw [hr.out]; rfl, HB3.out, L, by rw [hr.out], HD2.out, .of_below HB2.out mb L⟩
  | true =>
    cases hg : get L n with
    | some p =>
      obtain ⟨h1, h2⟩ := fe_some hok hg
      have hr := Lib.hid (read_some hok hg).2.2.2.2
      rw [h1, h2]
      clear h1 h2 hok hg
      go_wp2_with fail
      go_ret
      exact ⟨by rw [hr.out]; rfl, HB3.out, L, by rw [hr.out], HD2.out, .of_below HB2.out mb L⟩
    | none =>
      obtain ⟨h1, h2⟩ := fe_none hok hg
      have hr := Lib.hid (create_none hok hg)
      have hn : n.length ≤ 1000 := by have := nameOk_len hok; omega
      have hq1 := HD2.out.q1
      have HO := Lib.hid (HD2.out.ok.create n)
      have hlen := HD2.out.map.len Tryz.underlying79 3
      rw [dat_size] at hlen
      rw [h1, h2]
      clear h1 h2 hok hg
      by_cases h64 : 64 ≤ L.length
      · have d1 : decide ((64 : Int) ≤ (L.length : Int)) = true := decide_eq_true (by omega)
        have h64 := Lib.hid h64
        go_wp2_with fail
        go_ret
        have hc : create (fs L) n = (fs L, 7) := by rw [hr.out, if_pos h64.out]
        exact ⟨by rw [hc]; rfl, HB3.out, L, by rw [hc], HD2.out, .of_below HB2.out mb L⟩
      · have d1 : decide ((64 : Int) ≤ (L.length : Int)) = false := decide_eq_false (by omega)
        have h64 := Lib.hid h64
        have HB4 := Lib.hid (HB3.out.alloc HD2.out.size (.cells #[.string ⟨#[]⟩, .int .i64 0] 143))
        have HD4 := Lib.hid (HD2.out.alloc (.cells #[.string ⟨#[]⟩, .int .i64 0] 143))
        have hms : L.length < maxLen := by have := h64.out; simp [maxLen]; omega
        go_wp2_with (first | (at_mapUpdate; refine wpList_mapUpdate_in _ rfl _ _ _ 79 rfl 9 139 law9 Tryz.underlying79 RF mb _ _ rfl HD4.out.map hms _ _ _ rfl rfl (key_is n hn) (blk (w2.heap.size, ⟨[], 0⟩)) [] rfl ?_; intro w3 hown3 hturn3; have HM3 := Lib.hid hown3; have HT3 := Lib.hid hturn3; clear hown3 hturn3))
        go_ret
        have hc : create (fs L) n = (put (fs L) n ⟨[], 0⟩, 0) := by rw [hr.out, if_neg h64.out]
        refine ⟨by rw [hc]; rfl, below_turned HB4.out HT3.out HD2.out.mlow HD4.out.size, put L n (w2.heap.size, ⟨[], 0⟩), by rw [hc]; exact fs_put _ _ _, ?_, (((Turn.of_below HB2.out mb L).then_below ((Below.refl _ w2).alloc (Nat.le_refl _) (.cells #[.string ⟨#[]⟩, .int .i64 0] 143))).turned HT3.out).put n (w2.heap.size, ⟨[], 0⟩) (Or.inr HB2.out.size)⟩
        refine HD4.out.stored n (w2.heap.size, ⟨[], 0⟩) HM3.out HT3.out (heap_alloc_new w2 _) HD2.out.size (fun r hr => ?_) (by have := HO.out; rw [hc] at this; exact this)
        have := heap_lt (HD2.out.file r hr)
        omega
theorem rename_bad (l : FS) {n m : Tx} (h : [n, m].all nameOk = false) : rename l n m = (l, 2) := by
  have : (nameOk n && nameOk m) = false := by simpa using h
  simp only [Dk.rename, this, Bool.false_eq_true, ↓reduceIte]
theorem rename_none {L : Lf} {n m : Tx} (h : [n, m].all nameOk = true) (hg : get L n = none) : rename (fs L) n m = (fs L, 5) := by
  have h1 : (nameOk n && nameOk m) = true := by simpa using h
  have := fs_get L n
  rw [hg] at this
  simp [Dk.rename, h1, this]
theorem rename_some {L : Lf} {n m : Tx} (h : [n, m].all nameOk = true) {p : Nat × Fl} (hg : get L n = some p) : rename (fs L) n m = (put (del (fs L) n) m p.2, 0) := by
  have h1 : (nameOk n && nameOk m) = true := by simpa using h
  have := fs_get L n
  rw [hg] at this
  simp [Dk.rename, h1, this]
theorem ren_mem {L : Lf} {n m : Tx} {p : Nat × Fl} (hg : get L n = some p) {N : Nat} : ∀ r ∈ put (del L n) m p, (∃ x ∈ L, r.2.1 = x.2.1) ∨ N ≤ r.2.1 := fun r hr => by
  rcases (mem_ins _ _ _).1 hr with rfl | hr
  · exact Or.inl ⟨_, get_mem hg, rfl⟩
  · exact Or.inl ⟨r, ((mem_del _ _ _).1 ((mem_del _ _ _).1 hr).1).1, rfl⟩
set_option maxHeartbeats 1000000 in
theorem rename_full (w : World) {base d mb q : Nat} {L : Lf} (hD : IsD w base d mb q L) (n m : Tx) :
    Calls Tryz.prog 129 #[.pointer (some ⟨d, 0, none⟩), .string (bs n), .string (bs m)] w (DidT w base d mb q L (rename (fs L) n m)) := by
  have HB1 := Lib.hid ((Below.refl w.heap.size w).alloc (Nat.le_refl _) (.cells #[.string (bs m)] 9))
  have HF := Lib.hid (find1_calls (w.alloc (.cells #[.string (bs m)] 9)) (hD.alloc _) n m ⟨w.heap.size, 0, none⟩ (by simp [encS, cell_one_new]))
  have HD := Lib.hid hD
  clear hD
  go_enter Tryz.func129, Tryz.ntmps129
  go_wp2_with fail
  refine HF.out.mono ?_
  rintro e w2 ⟨rfl, hB2⟩
  have HB2 := Lib.hid (HB1.out.trans (hB2.mono HB1.out.size))
  have HD2 := Lib.hid (HD.out.below HB2.out)
  have HB3 := Lib.hid (HB2.out.mono HD.out.size)
  clear hB2 HF
  cases hok : [n, m].all nameOk with
  | false =>
    obtain ⟨h1, h2, _⟩ := findE_bad (L := L) hok
    have hr := Lib.hid (rename_bad (fs L) hok)
    rw [h1, h2]
    clear h1 h2 hok
    go_wp2_with fail
    go_ret
    exact ⟨by rw [hr.out]; rfl, HB3.out, L, by rw [hr.out], HD2.out, .of_below HB2.out mb L⟩
  | true =>
    cases hg : get L n with
    | none =>
      obtain ⟨h1, h2, _⟩ := findE_none hok hg
      have hr := Lib.hid (rename_none hok hg)
      rw [h1, h2]
      clear h1 h2 hok hg
      go_wp2_with fail
      go_ret
      exact ⟨by rw [hr.out]; rfl, HB3.out, L, by rw [hr.out], HD2.out, .of_below HB2.out mb L⟩
    | some p =>
      obtain ⟨h1, h2, _⟩ := findE_some hok hg
      have hr := Lib.hid (rename_some hok hg)
      have hn : n.length ≤ 1000 := by have := nameOk_len (show nameOk n = true by simp at hok; exact hok.1); omega
      have hm : m.length ≤ 1000 := by have := nameOk_len (show nameOk m = true by simp at hok; exact hok.2); omega
      have hq1 := HD2.out.q1
      have HG := Lib.hid hg
      have hms : L.length < maxLen := by have := HD2.out.ok.few; rw [vals_len] at this; simp [maxLen]; omega
      rw [h1, h2]
      clear h1 h2 hok hg
      go_wp2_with (first | (at_delete; refine wpList_delete_own _ rfl _ _ 79 9 rfl 139 law9 Tryz.underlying79 RF mb _ _ rfl HD2.out.map _ _ rfl (key_is n hn) ?_; intro w3 hown3 hturn3; have HM3 := Lib.hid hown3; have HT3 := Lib.hid hturn3; clear hown3 hturn3; have HD3 := Lib.hid (HD2.out.dropped n HM3.out HT3.out); have hq3 := HD3.out.q1) | (at_mapUpdate; refine wpList_mapUpdate_in _ rfl _ _ _ 79 rfl 9 139 law9 Tryz.underlying79 RF mb _ _ rfl HM3.out hms _ _ _ rfl rfl (key_is m hm) (blk p) [] rfl ?_; intro w4 hown4 hturn4; have HM4 := Lib.hid hown4; have HT4 := Lib.hid hturn4; clear hown4 hturn4))
      go_ret
      have hm2 := HM4.out
      rw [dat_del] at hm2
      refine ⟨by rw [hr.out]; rfl, below_turned (below_turned HB3.out HT3.out HD2.out.mlow HD2.out.size) HT4.out HD2.out.mlow HD3.out.size, put (del L n) m p, by rw [hr.out, fs_put, fs_del], ?_, (((Turn.of_below HB2.out mb L).turned HT3.out).turned HT4.out).list (ren_mem HG.out)⟩
      have hp : w3.heap[p.1]? = some (.cells (fcells p.2) 143) := turned_other HT3.out _ _ (HD2.out.ne_mb (get_mem HG.out)) (HD2.out.file _ (get_mem HG.out))
      refine HD3.out.stored m p hm2 HT4.out hp (HD2.out.flow _ (get_mem HG.out)) (fun r hr => ?_) ?_
      · have h1 := (mem_del _ _ _).1 hr
        exact apart_ne HD2.out.apart h1.1 (get_mem HG.out) h1.2
      · have hk := HD2.out.ok.rename n m
        have hr2 : rename (fs L) n m = _ := hr.out
        rw [hr2] at hk
        rw [fs_del]
        exact hk
end Go.Proofs.YtbffgpfkgmhmhaaGreatDoor.Dw
/- The contracts on the sorted keys of a map, laid at this dump in plain words (by the kit's lay-iter.mjs, lay-plain.mjs). -/
namespace Go.Proofs
open Go.RowKit Go.Maps Go.Sort Go.Shelf
def Tryz.keys98_ren : Go.Shelf.Ren := ⟨fun | 7 => 98 | 10 => 132 | n => n, fun | 23 => 79 | 26 => 9 | 3 => 139 | 28 => 171 | 0 => 0 | 27 => 170 | 33 => 199 | 4 => 4 | n => n, fun | n => n⟩
theorem Tryz.keys98 : Go.Proofs.SlLaysZ.n7 Tryz.prog Tryz.keys98_ren := {
  mixed := by kernel_rfl
  f7 := ⟨Tryz.f98.name, by decide, Tryz.func98.trans (congrArg some (by kernel_rfl))⟩
  f10 := ⟨Tryz.f132.name, by decide, Tryz.func132.trans (congrArg some (by kernel_rfl))⟩
  t0 := Tryz.underlying0
  a0 := Tryz.isAgg0
  z0 := Tryz.sizeOf0
  v0 := Tryz.zeroValue0
  t4 := Tryz.underlying4
  a4 := Tryz.isAgg4
  z4 := Tryz.sizeOf4
  v4 := Tryz.zeroValue4
  t23 := Tryz.underlying79
  a23 := Tryz.isAgg79
  z23 := Tryz.sizeOf79
  v23 := Tryz.zeroValue79
  t26 := Tryz.underlying9
  a26 := Tryz.isAgg9
  z26 := Tryz.sizeOf9
  v26 := Tryz.zeroValue9
  t27 := Tryz.underlying170
  a27 := Tryz.isAgg170
  z27 := Tryz.sizeOf170
  v27 := Tryz.zeroValue170
  t28 := Tryz.underlying171
  a28 := Tryz.isAgg171
  z28 := Tryz.sizeOf171
  v28 := Tryz.zeroValue171
  t33 := Tryz.underlying199
  a33 := Tryz.isAgg199
  z33 := Tryz.sizeOf199
  v33 := Tryz.zeroValue199 }
def Tryz.sorted97_ren : Go.Shelf.Ren := ⟨fun | 6 => 97 | 8 => 130 | 9 => 131 | 11 => 150 | 13 => 152 | 12 => 151 | 23 => 176 | 24 => 177 | 14 => 167 | 15 => 168 | 16 => 169 | 17 => 170 | 18 => 171 | 19 => 172 | 20 => 173 | 21 => 174 | 22 => 175 | 25 => 192 | 26 => 193 | 27 => 194 | 28 => 195 | 29 => 196 | 30 => 197 | 31 => 207 | n => n, fun | 26 => 9 | 28 => 171 | 24 => 43 | 0 => 0 | 3 => 3 | 37 => 123 | 48 => 107 | 50 => 22 | 4 => 4 | 40 => 243 | 39 => 242 | 45 => 247 | 5 => 5 | 9 => 9 | 51 => 262 | 55 => 265 | 57 => 269 | 58 => 270 | 33 => 199 | n => n, fun | n => n⟩
theorem Tryz.sorted97 : Go.Proofs.SlLaysZ.n6 Tryz.prog Tryz.sorted97_ren := {
  mixed := by kernel_rfl
  f6 := ⟨Tryz.f97.name, by decide, Tryz.func97.trans (congrArg some (by kernel_rfl))⟩
  f8 := ⟨Tryz.f130.name, by decide, Tryz.func130.trans (congrArg some (by kernel_rfl))⟩
  f11 := ⟨Tryz.f150.name, by decide, Tryz.func150.trans (congrArg some (by kernel_rfl))⟩
  t0 := Tryz.underlying0
  a0 := Tryz.isAgg0
  z0 := Tryz.sizeOf0
  v0 := Tryz.zeroValue0
  t24 := Tryz.underlying43
  a24 := Tryz.isAgg43
  z24 := Tryz.sizeOf43
  v24 := Tryz.zeroValue43
  t26 := Tryz.underlying9
  a26 := Tryz.isAgg9
  z26 := Tryz.sizeOf9
  v26 := Tryz.zeroValue9
  t28 := Tryz.underlying171
  a28 := Tryz.isAgg171
  z28 := Tryz.sizeOf171
  v28 := Tryz.zeroValue171
  i26 := by kernel_rfl }
def Tryz.sort131_ren : Go.Shelf.Ren := ⟨fun | 6 => 131 | 8 => 152 | 9 => 151 | 19 => 176 | 20 => 177 | 21 => 167 | 22 => 168 | 23 => 169 | 24 => 170 | 25 => 171 | 26 => 172 | 27 => 173 | 28 => 174 | 29 => 175 | 36 => 192 | 31 => 193 | 32 => 194 | 37 => 195 | 38 => 196 | 39 => 197 | 41 => 207 | n => n, fun | 27 => 43 | 29 => 9 | 3 => 3 | 32 => 123 | 26 => 43 | 0 => 0 | 44 => 107 | 46 => 22 | 4 => 4 | 36 => 243 | 35 => 242 | 41 => 247 | 5 => 5 | 9 => 9 | 53 => 262 | 57 => 265 | 63 => 269 | 64 => 270 | n => n, fun | n => n⟩
theorem Tryz.sort131 : Go.Proofs.SlLaysM.n6 Tryz.prog Tryz.sort131_ren := {
  mixed := by kernel_rfl
  f6 := ⟨Tryz.f131.name, by decide, Tryz.func131.trans (congrArg some (by kernel_rfl))⟩
  f8 := Tryz.func152.trans (congrArg some (by kernel_rfl))
  f9 := ⟨Tryz.f151.name, by decide, Tryz.func151.trans (congrArg some (by kernel_rfl))⟩
  f19 := Tryz.func176.trans (congrArg some (by kernel_rfl))
  f20 := Tryz.func177.trans (congrArg some (by kernel_rfl))
  f21 := ⟨Tryz.f167.name, by decide, Tryz.func167.trans (congrArg some (by kernel_rfl))⟩
  f22 := ⟨Tryz.f168.name, by decide, Tryz.func168.trans (congrArg some (by kernel_rfl))⟩
  f23 := ⟨Tryz.f169.name, by decide, Tryz.func169.trans (congrArg some (by kernel_rfl))⟩
  f24 := ⟨Tryz.f170.name, by decide, Tryz.func170.trans (congrArg some (by kernel_rfl))⟩
  f25 := ⟨Tryz.f171.name, by decide, Tryz.func171.trans (congrArg some (by kernel_rfl))⟩
  f26 := ⟨Tryz.f172.name, by decide, Tryz.func172.trans (congrArg some (by kernel_rfl))⟩
  f27 := ⟨Tryz.f173.name, by decide, Tryz.func173.trans (congrArg some (by kernel_rfl))⟩
  f28 := ⟨Tryz.f174.name, by decide, Tryz.func174.trans (congrArg some (by kernel_rfl))⟩
  f29 := ⟨Tryz.f175.name, by decide, Tryz.func175.trans (congrArg some (by kernel_rfl))⟩
  f31 := Tryz.func193.trans (congrArg some (by kernel_rfl))
  f32 := Tryz.func194.trans (congrArg some (by kernel_rfl))
  f36 := ⟨Tryz.f192.name, by decide, Tryz.func192.trans (congrArg some (by kernel_rfl))⟩
  f37 := ⟨Tryz.f195.name, by decide, Tryz.func195.trans (congrArg some (by kernel_rfl))⟩
  f38 := ⟨Tryz.f196.name, by decide, Tryz.func196.trans (congrArg some (by kernel_rfl))⟩
  f39 := ⟨Tryz.f197.name, by decide, Tryz.func197.trans (congrArg some (by kernel_rfl))⟩
  f41 := ⟨Tryz.f207.name, by decide, Tryz.func207.trans (congrArg some (by kernel_rfl))⟩
  t0 := Tryz.underlying0
  a0 := Tryz.isAgg0
  z0 := Tryz.sizeOf0
  v0 := Tryz.zeroValue0
  t3 := Tryz.underlying3
  a3 := Tryz.isAgg3
  z3 := Tryz.sizeOf3
  v3 := Tryz.zeroValue3
  t4 := Tryz.underlying4
  a4 := Tryz.isAgg4
  z4 := Tryz.sizeOf4
  v4 := Tryz.zeroValue4
  t5 := Tryz.underlying5
  a5 := Tryz.isAgg5
  z5 := Tryz.sizeOf5
  v5 := Tryz.zeroValue5
  t9 := Tryz.underlying9
  a9 := Tryz.isAgg9
  z9 := Tryz.sizeOf9
  v9 := Tryz.zeroValue9
  t26 := Tryz.underlying43
  a26 := Tryz.isAgg43
  z26 := Tryz.sizeOf43
  v26 := Tryz.zeroValue43
  t27 := Tryz.underlying43
  a27 := Tryz.isAgg43
  z27 := Tryz.sizeOf43
  v27 := Tryz.zeroValue43
  t29 := Tryz.underlying9
  a29 := Tryz.isAgg9
  z29 := Tryz.sizeOf9
  v29 := Tryz.zeroValue9
  t32 := Tryz.underlying123
  a32 := Tryz.isAgg123
  z32 := Tryz.sizeOf123
  v32 := Tryz.zeroValue123
  t35 := Tryz.underlying242
  a35 := Tryz.isAgg242
  z35 := Tryz.sizeOf242
  v35 := Tryz.zeroValue242
  t36 := Tryz.underlying243
  a36 := Tryz.isAgg243
  z36 := Tryz.sizeOf243
  v36 := Tryz.zeroValue243
  t41 := Tryz.underlying247
  a41 := Tryz.isAgg247
  z41 := Tryz.sizeOf247
  v41 := Tryz.zeroValue247
  t44 := Tryz.underlying107
  a44 := Tryz.isAgg107
  z44 := Tryz.sizeOf107
  v44 := Tryz.zeroValue107
  t46 := Tryz.underlying22
  a46 := Tryz.isAgg22
  z46 := Tryz.sizeOf22
  v46 := Tryz.zeroValue22
  t53 := Tryz.underlying262
  a53 := Tryz.isAgg262
  z53 := Tryz.sizeOf262
  v53 := Tryz.zeroValue262
  t57 := Tryz.underlying265
  a57 := Tryz.isAgg265
  z57 := Tryz.sizeOf265
  v57 := Tryz.zeroValue265
  t63 := Tryz.underlying269
  a63 := Tryz.isAgg269
  z63 := Tryz.sizeOf269
  v63 := Tryz.zeroValue269
  t64 := Tryz.underlying270
  a64 := Tryz.isAgg270
  z64 := Tryz.sizeOf270
  v64 := Tryz.zeroValue270 }
theorem Tryz.sorts97 (m : Nat) : AnyZ.SortsIn Tryz.prog Tryz.sorted97_ren Fence.wide m :=
  ⟨fun blk off cap ss W hH hblk hsz => callsIn_wide.2 (AnyM.slices_Sort_string Tryz.sort131 blk off cap ss W hH hblk hsz),
   fun p cap W => callsIn_wide.2 (AnyM.slices_Sort_string_none Tryz.sort131 p cap W)⟩
theorem Tryz.maps_Keys_98 (mb : Option Nat) (W : World) : CallsIn Fence.wide 5 Tryz.prog 98 #[.map mb] W fun e w' => e = .returned (.func (.func 132) #[] #[.pointer (some ⟨W.heap.size, 0, none⟩)]) ∧ w' = W.alloc (.cells #[.map mb] 79) :=
  AnyZ.keys_in Tryz.keys98 Fence.wide 5 trivial rfl mb W
set_option maxHeartbeats 1000000 in
theorem Tryz.slices_Sorted_keys_97_98 {H : Type} (b nn : Nat) (D0 : DataW H) (R : Value → Option (DataW H × List MemPlace)) (w : World) (hown : w.ownsMap Tryz.prog 9 R b nn D0) (hmax : Maps.size D0 ≤ maxLen) (hbytes : Maps.size D0 * 16 ≤ 140737488355328) :
    CallsIn Fence.wide 5 Tryz.prog 97 #[.func (.func 132) #[] #[.pointer (some ⟨w.heap.size, 0, none⟩)]] (w.alloc (.cells #[.map (some b)] 79)) fun e w' => ∃ (v : Value) (ss : List (List UInt8)), e = .returned v ∧ ss.Perm (strKeys D0) ∧
      w'.ownsRow (w.alloc (.cells #[.map (some b)] 79)).heap.size 9 1 v ss.length ((ss.mergeSort (fun x y => decide (x ≤ y))).map encStr) ∧ (v = .slice none 0 0 ↔ ss = []) ∧ Below (w.alloc (.cells #[.map (some b)] 79)).heap.size (w.alloc (.cells #[.map (some b)] 79)) w' := by
  have hbl := hown.lt
  have hseq : SeqGives Fence.wide 2 Tryz.prog 132 #[.pointer (some ⟨w.heap.size, 0, none⟩)] encStr (fun ss => ss.Perm (strKeys D0)) (Maps.size D0) (w.alloc (.cells #[.map (some b)] 79)) :=
    AnyZ.keys_gives (ρ := Tryz.keys98_ren) { Tryz.keys98 with } Fence.wide _ trivial rfl (by omega) w.heap.size b nn D0 _ (by simp) (by simp) (by
      obtain ⟨es, clock, hb, Ft, hs, hD⟩ := hown
      exact ⟨es, clock, (Below.heap_alloc _ _ b hbl).trans hb, Ft, hs, hD⟩)
  exact AnyZ.sorted_in Tryz.sorted97 Fence.wide 5 trivial trivial trivial trivial rfl (by omega) (Tryz.sorts97 _) (enters_of Tryz.func131 (by kernel_rfl) rfl) 132 #[.pointer (some ⟨w.heap.size, 0, none⟩)] trivial (enters_of Tryz.func132 (by kernel_rfl) rfl) _ _ hmax hbytes _ hseq
end Go.Proofs
/- each (functions 38, 57): the files, in the names' order. -/
set_option linter.unusedVariables false
set_option linter.unusedSimpArgs false
namespace Go.Proofs.YtbffgpfkgmhmhaaGreatDoor.Dw
open Go.RowKit Go.Maps Go.Sort Go.Shelf Go.Proofs.YtbffgpfkgmhmhaaGreatDoorW.PrintWords Go.Proofs.YtbffgpfkgmhmhaaGreatDoorW.PrintLast Go.Proofs.YtbffgpfkgmhmhaaGreatDoorW.PrintMore Go.Proofs.Dk
set_option maxRecDepth 100000
/-- What a round of a loop over the files keeps: all cells and walks but those that are the loop's own. -/
structure Keep (own : World → Nat → Prop) (A B : World) : Prop where
  size : A.heap.size ≤ B.heap.size
  same : ∀ k o, A.heap[k]? = some o → (o.isCells = true ∨ o.isWalk = true) → ¬ own A k → B.heap[k]? = some o
  grow : ∀ k, own B k → own A k ∨ A.heap.size ≤ k
theorem Keep.refl (own : World → Nat → Prop) (A : World) : Keep own A A := ⟨Nat.le_refl _, fun _ _ h _ _ => h, fun _ h => Or.inl h⟩
theorem Keep.trans {own : World → Nat → Prop} {A B C : World} (h : Keep own A B) (k : Keep own B C) : Keep own A C where
  size := Nat.le_trans h.size k.size
  same := fun i o hi ho hn => k.same i o (h.same i o hi ho hn) ho (fun hB => by
    rcases h.grow i hB with h1 | h1
    · exact hn h1
    · have := heap_lt hi; omega)
  grow := fun i hi => by
    rcases k.grow i hi with h1 | h1
    · exact h.grow i h1
    · exact Or.inr (Nat.le_trans h.size h1)
theorem Keep.cell {own : World → Nat → Prop} {A B : World} (h : Keep own A B) {a : Addr} {v : Value} (hc : A.cell? a = some v) (hn : ¬ own A a.block) : B.cell? a = some v := by
  have hc2 := hc
  unfold World.cell? at hc
  cases ho : A.heap[a.block]? with
  | none => simp [ho] at hc
  | some o =>
    cases o with
    | cells cs t fr =>
      have := h.same _ _ ho (Or.inl rfl) hn
      rw [← hc2]
      unfold World.cell?
      rw [ho, this]
    | _ => simp [ho] at hc
/-- A row of the files. -/
abbrev Row (L : Lf) := { r : Tx × (Nat × Fl) // r ∈ L }
def encF {L : Lf} (r : Row L) : Array Value := #[.string (bs r.1.1), .pointer (some ⟨r.1.2.1, 0, none⟩)]
theorem each_calls (W : World) (p : Option Addr) : Calls Tryz.prog 53 #[.pointer p] W fun e w' => e = .returned (.func (.func 95) #[] #[.pointer (some ⟨W.heap.size, 0, none⟩)]) ∧ w' = W.alloc (.cells #[.pointer p] 32) := by
  go_enter Tryz.func53, Tryz.ntmps53
  go_wp2
  go_ret
  exact ⟨rfl, rfl⟩
theorem look_map (w : World) {mb m : Nat} {L : Lf} (hm : w.ownsMap Tryz.prog 9 RF mb m (dat blk L)) (n : Tx) (hn : n.length ≤ 1000) :
    (Instr.lookup 79 (.map (some mb)) (.string (bs n)) false).run Tryz.prog w = .ok (.pointer ((get L n).map fun p => ⟨p.1, 0, none⟩)) w := by
  obtain ⟨v, ps, hr, hv⟩ := hm.lookup (string_keyed Tryz.underlying9) Tryz.underlying79 (zero71 w) (zd := .nil) (zp := []) rfl (key_is n hn)
  rw [hr]
  rw [dat_at] at hv
  congr 1
  cases hg : get L n with
  | none => rw [hg] at hv; exact RF_nil hv
  | some p => rw [hg] at hv; exact RF_at hv
theorem row_names {w1 : World} {b n : Nat} {v : Value} {l : List Tx} (h : w1.ownsRow b 9 1 v n (l.map encStr)) : ∃ A cap, v = .slice A n cap ∧ (0 < n → ∃ g cs, A = some ⟨g, 0, none⟩ ∧ b ≤ g ∧ w1.heap[g]? = some (.cells cs 9) ∧ ∀ j (hj : j < l.length), cs[j]? = some (.string (bs l[j]))) := by
  obtain ⟨hl, ⟨rfl, rfl⟩ | ⟨g, cap, cur, rfl, hb, hg, hn, hc, hs, ht⟩⟩ := h
  · exact ⟨none, 0, rfl, fun h => absurd h (Nat.lt_irrefl 0)⟩
  · refine ⟨some ⟨g, 0, none⟩, cap, rfl, fun _ => ⟨g, cur, rfl, hb, hg, fun j hj => ?_⟩⟩
    have hln : l.length = n := by simpa using hl
    have h1 : (cur.toList.take (n * 1))[j]? = some (encStr l[j]) := by rw [ht]; simp [hj]
    rw [List.getElem?_take, if_pos (by omega)] at h1
    rw [← Array.getElem?_toList, h1]
    rfl
theorem grown_of_below {A B : World} (h : RowKit.Below A.heap.size A B) : A.grownBy B none := ⟨h.os, h.tape, h.output, h.size, fun k hk _ => h.block k hk⟩
theorem cells_of {w : World} {g : Nat} {cs : Array Value} {t : TypeId} (h : w.heap[g]? = some (.cells cs t)) {j : Nat} {v : Value} (hv : cs[j]? = some v) : w.cell? ⟨g, j, none⟩ = some v := by
  simp [World.cell?, h, hv]
theorem sorted_names (W : World) {base d mb q : Nat} {L : Lf} (HDW : IsD W base d mb q L) :
    CallsIn Fence.wide 5 Tryz.prog 97 #[.func (.func 132) #[] #[.pointer (some ⟨W.heap.size, 0, none⟩)]] (W.alloc (.cells #[.map (some mb)] 79)) fun e w1 => ∃ A cap, e = .returned (.slice A L.length cap) ∧
      RowKit.Hid (0 < L.length → ∃ g cs, A = some ⟨g, 0, none⟩ ∧ W.heap.size ≤ g ∧ w1.heap[g]? = some (.cells cs 9) ∧ ∀ j (hj : j < L.length), cs[j]? = some (.string (bs (L[j]).1))) ∧ RowKit.Hid (RowKit.Below W.heap.size W w1) := by
  have hmax : Maps.size (dat blk L) ≤ maxLen := by have := HDW.ok.few; rw [vals_len] at this; rw [dat_size]; simp [maxLen]; omega
  have hbytes : Maps.size (dat blk L) * 16 ≤ 140737488355328 := by have := HDW.ok.few; rw [vals_len] at this; rw [dat_size]; omega
  refine (Tryz.slices_Sorted_keys_97_98 mb L.length (dat blk L) RF W HDW.map hmax hbytes).mono ?_
  rintro e w1 ⟨v, ss, rfl, hS, hrow, hnil, hb⟩
  rw [dat_keys] at hS
  have hkl := keys_sorted HDW.sorted hS
  have hsl : ss.length = L.length := by rw [hS.length_eq, keys_len]
  rw [hkl, hsl] at hrow
  obtain ⟨A, cap, rfl, hr⟩ := row_names hrow
  refine ⟨A, cap, rfl, ?_, ((RowKit.Below.refl W.heap.size W).alloc (Nat.le_refl _) (.cells #[.map (some mb)] 79)).trans (hb.mono (by simp))⟩
  intro h
  obtain ⟨g, cs, e1, e2, e3, e4⟩ := hr h
  refine ⟨g, cs, e1, ?_, e3, fun j hj => ?_⟩
  · rw [World.size_alloc] at e2; omega
  · have := e4 j (by rw [keys_len]; exact hj)
    rw [List.getElem_map] at this
    exact this
set_option maxHeartbeats 2000000 in
theorem each_stops (own : World → Nat → Prop) (w : World) {base d mb q : Nat} {L : Lf} (hD : IsD w base d mb q L) (B : Nat) (hBc : w.cell? ⟨B, 0, none⟩ = some (.pointer (some ⟨d, 0, none⟩)))
    (h1 : ∀ W', Below w.heap.size w W' → ∀ k, own W' k → own w k) (h2 : ∀ k, own w k → k < w.heap.size ∧ k ≠ B ∧ k ≠ d ∧ k ≠ mb) :
    SeqStopsK Fence.wide 6 Tryz.prog 95 #[.pointer (some ⟨B, 0, none⟩)] (encF (L := L)) (Keep own) (fun xs => xs.map (·.1) = L) (fun _ => True) L.length w := fun l J Jx W hW hJ hJx hY h0 => by
  have HDW := Lib.hid (hD.below hW)
  have hb0 : W.cell? ⟨B, 0, none⟩ = some (.pointer (some ⟨d, 0, none⟩)) := cell_below hBc hW
  have hq1 := HDW.out.q1
  have hl64 : L.length ≤ 64 := by have := HDW.out.ok.few; rw [vals_len] at this; exact this
  have HI := Lib.hid (fun n => (callsIn_wide (n := n)).2 (is_calls W HDW.out))
  have HS := Lib.hid (sorted_names W HDW.out)
  have hf1 : Fence.wide.fn 96 := trivial
  have hf2 : Fence.wide.fn 97 := trivial
  have hf3 : Fence.wide.fn 98 := trivial
  refine callsIn_of_wp Tryz.func95 rfl trivial ?_ rfl
  simp only [Tryz.ntmps95, List.size_toArray, List.length_cons, List.length_nil, Nat.reduceAdd, Nat.reduceSub, Array.replicate_succ, Array.replicate_zero, List.push_toArray, List.append_toArray, List.nil_append, List.cons_append]
  gi_wp2_with (first
    | (gi_at_call 96; refine (HI.out _).mono ?_; rintro e w' ⟨rfl, hw'⟩; obtain rfl := hw'.symm; clear hw')
    | (gi_at_call 98; refine (Tryz.maps_Keys_98 _ _).mono ?_; rintro e w' ⟨rfl, rfl⟩)
    | (gi_at_call 97; refine HS.out.mono ?_; rintro e w1 ⟨A, cap, rfl, HR, HB1⟩))
  have HJ1 := Lib.hid (hJ [] W w1 none h0 (grown_of_below HB1.out) (fun r e => by cases e))
  have HBw := Lib.hid (hW.trans (HB1.out.mono hW.size))
  have HN := Lib.hid (show ∀ k, own w1 k → k < w.heap.size ∧ k ≠ B ∧ k ≠ d ∧ k ≠ mb from fun k hk => h2 k (h1 w1 HBw.out k hk))
  have HD1 := Lib.hid (HDW.out.below HB1.out)
  have hb1 := Lib.hid (cell_below hb0 HB1.out)
  clear h0 hJ HS HI
  gi_loopw [15] (fun t15 wr => ∃ (i : Nat) (pre : List (Row L)), i ≤ L.length ∧ t15 = .int .i64 i ∧ pre.map (·.1) = L.take i ∧ J pre wr ∧ Keep own w1 wr) (fun t15 _ => L.length - (intOf t15).toNat)
  case atStart => exact ⟨0, [], Nat.zero_le _, rfl, rfl, HJ1.out, Keep.refl _ _⟩
  case round =>
    obtain ⟨i, pre, hi, rfl, hp, hJr, hK⟩ := hrel
    have HK := Lib.hid hK
    have HP := Lib.hid hp
    clear hK hp
    by_cases hlt : i < L.length
    · have hltb : decide ((i : Int) < (L.length : Int)) = true := decide_eq_true (by omega)
      have hk0 : 0 ≤ (i : Int) := by omega
      have hpl : pre.length = i := by have := congrArg List.length HP.out; rw [List.length_map, List.length_take] at this; omega
      obtain ⟨fn, tmps, assign, body, hy, hR⟩ := hY pre ⟨L[i], List.getElem_mem hlt⟩ wr hJr (by omega)
      dsimp only [encF] at hy
      obtain ⟨g, cs, rfl, hg0, hg, hcs⟩ := HR.out (by omega)
      have hgr := HK.out.same g _ hg (Or.inl rfl) (fun ho => by have := (HN.out g ho).1; have := HB1.out.size; have := hW.size; omega)
      have hc := cells_of hgr (hcs i hlt)
      have hdr := HK.out.same d _ HD1.out.top (Or.inl rfl) (fun ho => (HN.out d ho).2.2.1 rfl)
      have hbr := HK.out.cell hb1.out (fun ho => (HN.out B ho).2.1 rfl)
      have hqr : wr.cell? ⟨d, 1, none⟩ = some (.map (some mb)) := by simp [World.cell?, hdr]
      have hmr : wr.ownsMap Tryz.prog 9 RF mb L.length (dat blk L) := by
        obtain ⟨es, clock, hm, F, hn, hDD⟩ := HD1.out.map
        exact ⟨es, clock, HK.out.same mb _ hm (Or.inr rfl) (fun ho => (HN.out mb ho).2.2.2 rfl), F, hn, hDD⟩
      have hnl := nameOk_len (HD1.out.ok.names (L[i].1, L[i].2.2) (by exact List.mem_map_of_mem (List.getElem_mem hlt)))
      have hlk := look_map wr hmr L[i].1 (by dsimp only at hnl; omega)
      rw [Dk.get_at HD1.out.sorted i hlt] at hlk
      have hpa : (pre ++ [(⟨L[i], List.getElem_mem hlt⟩ : Row L)]).map (·.1) = L.take (i + 1) := by
        rw [List.map_append, HP.out, List.take_succ_eq_append_getElem hlt]; rfl
      have HPa := Lib.hid hpa
      clear hpa hnl hmr hdr hgr hcs hg hpl hJr
      gi_wp2
      refine hR.mono ?_
      rintro e W3 (⟨rfl, hJ3, hk3⟩ | ⟨rfl, hJx3⟩)
      · have HJ3 := Lib.hid hJ3
        have HK3 := Lib.hid (HK.out.trans hk3)
        clear hJ3 hk3 hR hy hc hbr hqr hlk HK
        gi_wp2
        go_roundw
        case rel => exact ⟨i + 1, _, by omega, by go_num, HPa.out, HJ3.out, HK3.out⟩
        case measure => simp [intOf]; omega
      · gi_wp2
        refine bodyPost_ret (results_none rfl _ _ _) rfl ?_
        exact ⟨⟨_, rfl⟩, .inr ⟨_, trivial, hJx3⟩⟩
    · have hltb : decide ((i : Int) < (L.length : Int)) = false := decide_eq_false (by omega)
      have he : i = L.length := by omega
      subst he
      gi_wp2
      go_end0
      exact ⟨⟨_, rfl⟩, .inl ⟨pre, by rw [HP.out, List.take_length], hJr⟩⟩
end Go.Proofs.YtbffgpfkgmhmhaaGreatDoor.Dw
/- Used (function 14). -/
set_option linter.unusedVariables false
set_option linter.unusedSimpArgs false
namespace Go.Proofs.YtbffgpfkgmhmhaaGreatDoor.Dw
open Go.RowKit Go.Maps Go.Sort Go.Shelf Go.Proofs.YtbffgpfkgmhmhaaGreatDoorW.PrintWords Go.Proofs.YtbffgpfkgmhmhaaGreatDoorW.PrintLast Go.Proofs.YtbffgpfkgmhmhaaGreatDoorW.PrintMore Go.Proofs.Dk
attribute [local go_sem] Oper.semAt_some
set_option maxRecDepth 100000
section
variable {own : Nat → Prop}
theorem keep_setCell (A : World) {a : Addr} (ha : own a.block) (u : Value) : Keep (fun _ => own) A (A.setCell a u) where
  size := by simp [World.setCell]
  same := fun k o hk _ hn => by rw [RowKit.Below.heap_setCell _ _ _ _ (fun e => hn (by rw [e]; exact ha))]; exact hk
  grow := fun k h => Or.inl h
theorem keep_alloc (A : World) (o : Obj) : Keep (fun _ => own) A (A.alloc o) where
  size := by simp
  same := fun k o' hk _ _ => (RowKit.Below.heap_alloc _ _ _ (heap_lt hk)).trans hk
  grow := fun k h => Or.inl h
theorem keep_drew {A B : World} (h : Keep (fun _ => own) A B) : Keep (fun _ => own) A B.drew := ⟨h.size, h.same, h.grow⟩
theorem keep_putObj (W : World) (l : Nat) (o o' : Obj) (h : W.heap[l]? = some o) (h1 : o.isCells = false) (h2 : o.isWalk = false) : Keep (fun _ => own) W (W.putObj l o') where
  size := by simp [World.putObj]
  same := fun k o2 hk ho _ => by
    have hne : k ≠ l := fun e => by
      subst e
      rw [h] at hk
      cases hk
      rcases ho with ho | ho
      · rw [h1] at ho; cases ho
      · rw [h2] at ho; cases ho
    exact (World.putObj_heap_other hne).trans hk
  grow := fun k h => Or.inl h
end
def sumF {L : Lf} (pre : List (Row L)) : Nat := (pre.map fun r => r.1.2.2.b.length).sum
theorem sumF_snoc {L : Lf} (pre : List (Row L)) (x : Row L) : sumF (pre ++ [x]) = sumF pre + x.1.2.2.b.length := by simp [sumF]
theorem sumF_le {L : Lf} (h : ∀ r ∈ L, r.2.2.b.length ≤ 65536) (pre : List (Row L)) : sumF pre ≤ pre.length * 65536 := by
  induction pre with
  | nil => simp [sumF]
  | cons x r ih =>
    have := h x.1 x.2
    simp only [sumF, List.map_cons, List.sum_cons, List.length_cons] at *
    omega
theorem sumF_all {L : Lf} (xs : List (Row L)) (h : xs.map (·.1) = L) : sumF xs = used (fs L) := by
  have : (xs.map fun r => r.1.2.2.b.length) = (fs L).map (fun p => p.2.b.length) := by
    rw [show (fs L).map (fun p => p.2.b.length) = L.map (fun r => r.2.2.b.length) by simp [vals, Function.comp_def]]
    conv => rhs; rw [← h]
    rw [List.map_map]
    rfl
  simp only [sumF, used, this]
theorem IsD.len {w : World} {base d mb q : Nat} {L : Lf} (h : IsD w base d mb q L) : ∀ r ∈ L, r.2.2.b.length ≤ 65536 := fun r hr => h.ok.file (r.1, r.2.2) (List.mem_map_of_mem hr)
theorem cell_new_l2 (W : World) (v : Value) (t : TypeId) (o : Obj) : ((W.alloc (.cells #[v] t)).alloc o).cell? ⟨W.heap.size, 0, none⟩ = some v ∧ ((W.alloc (.cells #[v] t)).alloc o).frozen? ⟨W.heap.size, 0, none⟩ = false := by
  have h : ((W.alloc (.cells #[v] t)).alloc o).heap[W.heap.size]? = some (.cells #[v] t) := (RowKit.Below.heap_alloc _ _ _ (by simp)).trans (heap_alloc_new W _)
  constructor <;> simp [World.cell?, World.frozen?, h]
theorem cell_new_l3 (W : World) (o : Obj) (v : Value) (t : TypeId) : ((W.alloc o).alloc (.cells #[v] t)).cell? ⟨W.heap.size + 1, 0, none⟩ = some v := by
  have h := heap_alloc_new (W.alloc o) (.cells #[v] t)
  rw [World.size_alloc] at h
  unfold World.cell?
  rw [h]
  rfl
theorem results_one {fn : Func} {p : Tmp} {ty : TypeId} {tmps : Array Value} {w : World} {a : Addr} {v : Value} (h : fn.results = #[.cell p ty]) (hp : tmps.getD p undef = .pointer (some a)) (hc : w.cell? a = some v)
    (hu : Tryz.prog.underlying ty = some (.int .i64) ∨ ∃ e, Tryz.prog.underlying ty = some (.slice e)) : (results fn tmps).run Tryz.prog w = .ok v w := by
  have hp' : tmps[p]?.getD undef = .pointer (some a) := by simpa using hp
  have ha : (isAgg ty).run Tryz.prog w = .ok false w := by
    rcases hu with hu | ⟨e, hu⟩
    · exact run_isAgg_plain hu rfl w
    · exact run_isAgg_plain hu rfl w
  simp [results, h, hp', asAddr, loadVar, ha, hc, go_sem]
set_option maxHeartbeats 2000000 in
theorem used_calls (w : World) {base d mb q : Nat} {L : Lf} (hD : IsD w base d mb q L) :
    Calls Tryz.prog 134 #[.pointer (some ⟨d, 0, none⟩)] w fun e w' => e = .returned (.int .i64 (used (fs L) : Int)) ∧ RowKit.Below w.heap.size w w' := by
  have hl64 : L.length ≤ 64 := by have := hD.ok.few; rw [vals_len] at this; exact this
  have hdl := heap_lt hD.top
  have hml := hD.map.lt
  have hf1 : Fence.wide.fn 53 := trivial
  have hmix : Tryz.prog.follows .mixedOrders = true := by kernel_rfl
  refine (callsIn_wide (n := 7)).1 ?_
  refine callsIn_of_wp_marks Tryz.func134 rfl trivial ?_ rfl
  simp only [Tryz.ntmps134, List.size_toArray, List.length_cons, List.length_nil, Nat.reduceAdd, Nat.reduceSub, Array.replicate_succ, Array.replicate_zero, List.push_toArray, List.append_toArray, List.nil_append, List.cons_append]
  gi_wp2_with (gi_at_call 53; refine (callsIn_wide.2 (each_calls _ _)).mono ?_; rintro e w' ⟨rfl, rfl⟩)
  have HDb := Lib.hid hD
  have HW1 := Lib.hid (show RowKit.Below w.heap.size w ((w.alloc (.cells #[.int .i64 0] 3)).alloc (.cells #[.pointer (some ⟨d, 0, none⟩)] 32)) from ((RowKit.Below.refl _ w).alloc (Nat.le_refl _) _).alloc (by simp) _)
  have hs0 := cell_new_l2 w (.int .i64 0) 3 (.cells #[.pointer (some ⟨d, 0, none⟩)] 32)
  have hs1 := cell_new_l3 w (.cells #[.int .i64 0] 3) (.pointer (some ⟨d, 0, none⟩)) 32
  refine wpIn_rangeFunc_ownG rfl (by omega) (gf := 95) (lb := #[.pointer (some ⟨w.heap.size + 1, 0, none⟩)]) rfl trivial (enters_of Tryz.func95 (by kernel_rfl) rfl)
    (each_stops (fun _ k => k = w.heap.size) ((w.alloc (.cells #[.int .i64 0] 3)).alloc (.cells #[.pointer (some ⟨d, 0, none⟩)] 32)) (hD.below HW1.out) (w.heap.size + 1) hs1 (fun _ _ _ h => h) (fun k h => by subst h; simp; omega))
    (fun h k => h.trans k) (fun W l o o' hl h hc hw => keep_putObj W l o o' h hc hw) (RowKit.Below.refl _ _) (fun _ => rfl)
    (fun pre W => (W.cell? ⟨w.heap.size, 0, none⟩ = some (.int .i64 (sumF pre : Int)) ∧ W.frozen? ⟨w.heap.size, 0, none⟩ = false) ∧ RowKit.Below w.heap.size w W)
    (fun _ _ _ => False)
    (OwnFrom.and (Own.from (fun s A B row hs hg hr => ⟨cell_kept hs.1 hg hr, (frozen_kept hs.1 hg hr).trans hs.2⟩) _) (ownFrom_below (Nat.le_refl _) (by simp; omega)))
    (fun _ _ _ _ _ hs _ _ => hs)
    ⟨hs0, HW1.out⟩
    (fun x => { tmps := #[.pointer (some ⟨d, 0, none⟩), undef, .pointer (some ⟨w.heap.size, 0, none⟩), undef, .pointer (some ⟨x.1.2.1, 0, none⟩), .pointer (some ⟨d, 0, none⟩), .func (.func 95) #[] #[.pointer (some ⟨w.heap.size + 1, 0, none⟩)], .string (bs x.1.1), .pointer (some ⟨x.1.2.1, 0, none⟩), undef, undef, undef, undef, undef, undef, undef, undef], defers := [] }) ?assign ?body ?done ?stop
  case assign =>
    intro l x W K hK
    dsimp only [encF]
    gi_wp2
    exact hK
  case body =>
    rintro l pre x W ⟨⟨hc, hfz⟩, hB⟩ hlen
    have hDW := HDb.out.below hB
    have hc0 := cells_of (hDW.file _ x.2) (j := 0) (v := .string (bs x.1.2.2.b)) rfl
    have hsz := bs_size x.1.2.2.b
    have hle := sumF_le HDb.out.len pre
    have hlx := HDb.out.len x.1 x.2
    have HB := Lib.hid hB
    have hsn := Lib.hid (sumF_snoc pre x)
    have hlp : sumF pre ≤ 4194304 := by omega
    clear hB hDW hD hle
    gi_wp2
    gi_region_o
    all_goals
      have hv : IntKind.i64.wrap ((sumF pre : Int) + (x.1.2.2.b.length : Int)) = ((sumF pre + x.1.2.2.b.length : Nat) : Int) := by
        rw [IntWalk.i64_in _ ⟨by omega, by omega⟩]; omega
      have hfz2 : ∀ v, ((W.setCell ⟨w.heap.size, 0, none⟩ v).drew).frozen? ⟨w.heap.size, 0, none⟩ = false := fun v => by
        show (W.setCell ⟨w.heap.size, 0, none⟩ v).frozen? ⟨w.heap.size, 0, none⟩ = false
        rw [World.frozen?_setCell]; exact hfz
      refine ⟨((KeepsOthers.setCell W _ _).trans (KeepsOthers.drew _)).from _, keep_drew (keep_setCell (own := fun k => k = w.heap.size) W rfl _), ⟨?_, hfz2 _⟩, (HB.out.setCell (p := ⟨w.heap.size, 0, none⟩) (Nat.le_refl _) _).drew⟩
      rw [hsn.out, hv]
      exact World.cell?_setCell_same' _ _ _ (by rw [hc]; rfl)
  case done =>
    rintro D ys W hD' hS ⟨⟨hc, hfz⟩, hB⟩ hK
    have hDs : w.heap.size + 2 ≤ D := by simpa using hD'
    have hall := sumF_all ys hS
    have hB2 := Lib.hid hB
    have hD3 : w.heap.size ≤ D := by omega
    rw [hall] at hc
    clear hB hD' hall
    gi_wp2
    have hK2 := (KeepsOthers.setCell W ⟨w.heap.size, 0, none⟩ (.int .i64 (used (fs L) : Int))).same D _ hK rfl
    refine ⟨by simp, .inl ⟨_, _, rfl, run_takeDeferred hK2, ?_⟩⟩
    have hc2 : (W.setCell ⟨w.heap.size, 0, none⟩ (.int .i64 (used (fs L) : Int))).cell? ⟨w.heap.size, 0, none⟩ = some (.int .i64 (used (fs L) : Int)) := World.cell?_setCell_same' _ _ _ (by rw [hc]; rfl)
    have hc3 := cell_kept hc2 (grownBy_putObj' _ D (.deferred none)) (fun r e => by cases e; exact ⟨_, hK2, rfl⟩)
    refine ⟨_, results_one rfl rfl hc3 (.inl Tryz.underlying3), rfl, ?_⟩
    exact (hB2.out.setCell (p := ⟨w.heap.size, 0, none⟩) (Nat.le_refl _) _).trans (belowK_b (w := w) (Nat.le_refl _) _ D _ _ hD3 hK2 rfl rfl)
  case stop =>
    rintro D c pre W _ _ h _
    exact h.elim
end Go.Proofs.YtbffgpfkgmhmhaaGreatDoor.Dw
/- List (function 13). -/
set_option linter.unusedVariables false
set_option linter.unusedSimpArgs false
namespace Go.Proofs.YtbffgpfkgmhmhaaGreatDoor.Dw
open Go.RowKit Go.Maps Go.Sort Go.Shelf Go.Proofs.YtbffgpfkgmhmhaaGreatDoorW.PrintWords Go.Proofs.YtbffgpfkgmhmhaaGreatDoorW.PrintLast Go.Proofs.YtbffgpfkgmhmhaaGreatDoorW.PrintMore Go.Proofs.Dk
attribute [local go_sem] Oper.semAt_some
set_option maxRecDepth 100000
theorem info9 : (Tryz.prog.info? 9).map (fun i => (i.zero, i.size, i.bytes)) = some (some (.string ⟨#[]⟩), 1, 16) := by kernel_rfl
/-- A variable's box, and the row that the slice in it owns. -/
def ownL (bx : Nat) (W : World) (k : Nat) : Prop := k = bx ∨ ∃ v, W.cell? ⟨bx, 0, none⟩ = some v ∧ v.ownBlock = some k
theorem keep_list {W w1 : World} {bx t : Nat} {v v' : Value} {tmp : Obj} (hv : Boxed W bx t v) (hgrow : (W.alloc tmp).grownBy w1 v.ownBlock) (hat : v'.ownBlock = v.ownBlock ∨ v'.ownBlock = some (W.alloc tmp).heap.size) (hv2 : Boxed (w1.setCell ⟨bx, 0, none⟩ v') bx t v') :
    Keep (ownL bx) W (w1.setCell ⟨bx, 0, none⟩ v') where
  size := by have := hgrow.size; simp [World.setCell] at *; omega
  same := fun k o hk _ hn => by
    have h1 : k ≠ bx := fun e => hn (Or.inl e)
    have h2 : some k ≠ v.ownBlock := fun e => hn (Or.inr ⟨v, hv.cell, e.symm⟩)
    rw [RowKit.Below.heap_setCell _ _ _ _ h1]
    have h3 : (W.alloc tmp).heap[k]? = some o := (RowKit.Below.heap_alloc _ _ _ (heap_lt hk)).trans hk
    exact (hgrow.block k (heap_lt h3) h2).trans h3
  grow := fun k hk => by
    rcases hk with hk | ⟨u, hu, hk⟩
    · exact Or.inl (Or.inl hk)
    · rw [hv2.cell] at hu
      cases hu
      rcases hat with h | h
      · exact Or.inl (Or.inr ⟨v, hv.cell, by rw [← h]; exact hk⟩)
      · right
        rw [h] at hk
        cases hk
        simp
theorem keep_putL (bx : Nat) (W : World) (l : Nat) (o o' : Obj) (hl : bx ≠ l) (h : W.heap[l]? = some o) (h1 : o.isCells = false) (h2 : o.isWalk = false) : Keep (ownL bx) W (W.putObj l o') where
  size := by simp [World.putObj]
  same := fun k o2 hk ho _ => (keep_putObj (own := fun _ => False) W l o o' h h1 h2).same k o2 hk ho (fun h => h)
  grow := fun k hk => by
    rcases hk with hk | ⟨u, hu, hk⟩
    · exact Or.inl (Or.inl hk)
    · refine Or.inl (Or.inr ⟨u, ?_, hk⟩)
      rw [← hu]
      unfold World.cell?
      rw [World.putObj_heap_other (by exact hl)]
def namesF {L : Lf} (pre : List (Row L)) : List Value := pre.map fun r => .string (bs r.1.1)
theorem namesF_snoc {L : Lf} (pre : List (Row L)) (x : Row L) : namesF (pre ++ [x]) = namesF pre ++ [.string (bs x.1.1)] := by simp [namesF]
theorem namesF_all {L : Lf} (xs : List (Row L)) (h : xs.map (·.1) = L) : namesF xs = (fs L).map (fun p => encS p.1) ∧ xs.length = L.length := by
  constructor
  · rw [show (fs L).map (fun p => encS p.1) = L.map (fun r => encS r.1) by simp [vals, Function.comp_def]]
    conv => rhs; rw [← h]
    rw [List.map_map]
    rfl
  · have := congrArg List.length h; simpa using this
set_option maxHeartbeats 2000000 in
theorem list_calls (w : World) {base d mb q : Nat} {L : Lf} (hD : IsD w base d mb q L) :
    Calls Tryz.prog 16 #[.pointer (some ⟨d, 0, none⟩)] w fun e w' => ∃ v, e = .returned v ∧ w'.ownsRow w.heap.size 9 1 v (fs L).length ((fs L).map (fun p => encS p.1)) ∧ RowKit.Below w.heap.size w w' := by
  have hl64 : L.length ≤ 64 := by have := hD.ok.few; rw [vals_len] at this; exact this
  have hdl := heap_lt hD.top
  have hml := hD.map.lt
  have hf1 : Fence.wide.fn 53 := trivial
  refine (callsIn_wide (n := 7)).1 ?_
  refine callsIn_of_wp_marks Tryz.func16 rfl trivial ?_ rfl
  simp only [Tryz.ntmps16, List.size_toArray, List.length_cons, List.length_nil, Nat.reduceAdd, Nat.reduceSub, Array.replicate_succ, Array.replicate_zero, List.push_toArray, List.append_toArray, List.nil_append, List.cons_append]
  gi_wp2_with (gi_at_call 53; refine (callsIn_wide.2 (each_calls _ _)).mono ?_; rintro e w' ⟨rfl, rfl⟩)
  have HDb := Lib.hid hD
  have HW1 := Lib.hid (show RowKit.Below w.heap.size w ((w.alloc (.cells #[.slice none 0 0] 43)).alloc (.cells #[.pointer (some ⟨d, 0, none⟩)] 32)) from ((RowKit.Below.refl _ w).alloc (Nat.le_refl _) _).alloc (by simp) _)
  have hb1 : Boxed ((w.alloc (.cells #[.slice none 0 0] 43)).alloc (.cells #[.pointer (some ⟨d, 0, none⟩)] 32)) w.heap.size 43 (.slice none 0 0) := (Boxed.new w 43 (.slice none 0 0)).alloc _
  have hs1 := cell_new_l3 w (.cells #[.slice none 0 0] 43) (.pointer (some ⟨d, 0, none⟩)) 32
  refine wpIn_rangeFunc_ownG rfl (by omega) (gf := 95) (lb := #[.pointer (some ⟨w.heap.size + 1, 0, none⟩)]) rfl trivial (enters_of Tryz.func95 (by kernel_rfl) rfl)
    (each_stops (ownL w.heap.size) ((w.alloc (.cells #[.slice none 0 0] 43)).alloc (.cells #[.pointer (some ⟨d, 0, none⟩)] 32)) (hD.below HW1.out) (w.heap.size + 1) hs1 ?own1 ?own2)
    (fun h k => h.trans k) (fun W l o o' hl h hc hw => keep_putL w.heap.size W l o o' (by simp at hl; omega) h hc hw) (RowKit.Below.refl _ _) (fun _ => rfl)
    (fun pre W => (∃ v, Boxed W w.heap.size 43 v ∧ W.ownsRow w.heap.size 9 1 v pre.length (namesF pre) ∧ True) ∧ RowKit.Below w.heap.size w W)
    (fun _ _ _ => False)
    (OwnFrom.and (Own.from (holdsRow_own w.heap.size w.heap.size 43 9 1 (fun pre => pre.length) (fun pre => namesF pre) (fun _ _ => True)) _) (ownFrom_below (Nat.le_refl _) (by simp; omega)))
    (fun _ _ _ _ _ hs _ _ => hs)
    ⟨⟨_, hb1, World.ownsRow_nil _ _ _ _, trivial⟩, HW1.out⟩
    (fun x => { tmps := #[.pointer (some ⟨d, 0, none⟩), undef, .pointer (some ⟨w.heap.size, 0, none⟩), .string (bs x.1.1), .pointer (some ⟨d, 0, none⟩), .func (.func 95) #[] #[.pointer (some ⟨w.heap.size + 1, 0, none⟩)], .string (bs x.1.1), .pointer (some ⟨x.1.2.1, 0, none⟩), undef, undef, undef, undef, undef], defers := [] }) ?assign ?body ?done ?stop
  case own1 =>
    intro W' hB k hk
    rcases hk with hk | ⟨u, hu, hk⟩
    · exact Or.inl hk
    · refine Or.inr ⟨u, ?_, hk⟩
      rw [← hu]
      unfold World.cell?
      rw [hB.block _ (by simp; omega)]
  case own2 =>
    intro k hk
    have hk1 : k = w.heap.size := by
      rcases hk with hk | ⟨u, hu, hk⟩
      · exact hk
      · rw [hb1.cell] at hu; cases hu; cases hk
    subst hk1
    simp
    omega
  case assign =>
    intro l x W K hK
    dsimp only [encF]
    gi_wp2
    exact hK
  case body =>
    rintro l pre x W ⟨⟨v, hv, hrow, _⟩, hB⟩ hlen
    have hc := hv.cell
    have hm1 : pre.length + 1 ≤ maxLen := by simp [maxLen]; omega
    have hm2 : (pre.length + 1) * 16 ≤ 140737488355328 := by omega
    have hsz := hB.size
    obtain ⟨i0, hi, hz0, hz1, hz2⟩ := info_parts info9
    have HB := Lib.hid hB
    clear hB hD
    gi_wp2_with (first | (gi_at_builtin; refine wpListIn_append_own_at _ rfl _ _ 43 rfl w.heap.size 9 i0 (.string ⟨#[]⟩) 1 16 Tryz.underlying43 hi hz0 hz1 hz2 rfl (by decide) _ _ _ rfl (hrow.alloc _) ⟨W.heap.size, 0, none⟩ 1 1 [.string (bs x.1.1)] rfl rfl (cell_one_new _ _ _) (by simp [Value.oneCell']) hm1 hm2 (by simp; omega) ?_; intro v' w1 hown' hgrow _ hat; obtain ⟨g', cap', rfl⟩ := ownsRow_succ hown'; obtain ⟨hv1, hv2, hr2, hk2, hb2⟩ := hv.appended (by decide) hrow hsz (Nat.le_refl _) hown' hgrow; have hc1 := hv1.cell; have hf1 := hv1.frozen))
    exact ⟨hk2.from _, keep_list hv hgrow hat hv2, ⟨_, hv2, by rw [namesF_snoc, List.length_append]; exact hr2, trivial⟩, HB.out.trans hb2⟩
  case done =>
    rintro D ys W hD' hS ⟨⟨v, hv, hrow, _⟩, hB⟩ hK
    have hDs : w.heap.size + 2 ≤ D := by simpa using hD'
    obtain ⟨hn1, hn2⟩ := namesF_all ys hS
    have hc := hv.cell
    have hB2 := Lib.hid hB
    have hD3 : w.heap.size ≤ D := by omega
    obtain ⟨A, cap, hvs⟩ : ∃ A cap, v = .slice A ys.length cap := by
      rcases hrow.2 with ⟨rfl, h0⟩ | ⟨g, cap, cur, rfl, _⟩
      · exact ⟨none, 0, by rw [h0]⟩
      · exact ⟨_, cap, rfl⟩
    subst hvs
    have hfz := hv.frozen
    have HR := Lib.hid hrow
    have HN := Lib.hid hn1
    clear hB hD' hrow hn1
    rw [hn2] at hv hc
    have HR2 := Lib.hid (show W.ownsRow w.heap.size 9 1 (.slice A L.length cap) L.length ((fs L).map (fun p => encS p.1)) by have := HR.out; rw [HN.out, hn2] at this; exact this)
    gi_wp2
    have hK2 := (KeepsOthers.setCell W ⟨w.heap.size, 0, none⟩ (.slice A L.length cap)).same D _ hK rfl
    refine ⟨by simp, .inl ⟨_, _, rfl, run_takeDeferred hK2, ?_⟩⟩
    have hc2 : (W.setCell ⟨w.heap.size, 0, none⟩ (.slice A L.length cap)).cell? ⟨w.heap.size, 0, none⟩ = some (.slice A L.length cap) := World.cell?_setCell_same' _ _ _ (by rw [hc]; rfl)
    have hc3 := cell_kept hc2 (grownBy_putObj' _ D (.deferred none)) (fun r e => by cases e; exact ⟨_, hK2, rfl⟩)
    refine ⟨_, results_one rfl rfl hc3 (.inr ⟨_, Tryz.underlying43⟩), _, rfl, ?_, ?_⟩
    · rw [show (fs L).length = L.length from vals_len _ _]
      exact ownsRow_putObj (HR2.out.kept (grownBy_setCell' W _ _) (.inr (hv.not_row (by decide) HR2.out).symm)) _ hK2 rfl
    · exact (hB2.out.setCell (p := ⟨w.heap.size, 0, none⟩) (Nat.le_refl _) _).trans (belowK_b (w := w) (Nat.le_refl _) _ D _ _ hD3 hK2 rfl rfl)
  case stop =>
    rintro D c pre W _ _ h _
    exact h.elim
end Go.Proofs.YtbffgpfkgmhmhaaGreatDoor.Dw
/- Copy (function 11). -/
set_option linter.unusedVariables false
set_option linter.unusedSimpArgs false
namespace Go.Proofs.YtbffgpfkgmhmhaaGreatDoor.Dw
open Go.RowKit Go.Maps Go.Sort Go.Shelf Go.Proofs.YtbffgpfkgmhmhaaGreatDoorW.PrintWords Go.Proofs.YtbffgpfkgmhmhaaGreatDoorW.PrintLast Go.Proofs.YtbffgpfkgmhmhaaGreatDoorW.PrintMore Go.Proofs.Dk
attribute [local go_sem] Oper.semAt_some
set_option maxRecDepth 100000
end Go.Proofs.YtbffgpfkgmhmhaaGreatDoor.Dw
/- A region that draws its order, in a round of a range over a function: walked as everywhere. -/
set_option linter.unusedVariables false
set_option linter.unusedSimpArgs false
namespace Go.Proofs.YtbffgpfkgmhmhaaGreatDoor.Dw
open Go.RowKit Go.Maps Go.Sort Go.Shelf Go.Proofs.YtbffgpfkgmhmhaaGreatDoorW.PrintWords Go.Proofs.YtbffgpfkgmhmhaaGreatDoorW.PrintLast Go.Proofs.YtbffgpfkgmhmhaaGreatDoorW.PrintMore Go.Proofs.Dk
section
variable {P : Program} {ops : Array Oper} {Q : Exit → Act → World → Prop} {md : Region.Mode} {l n : Nat}
/-- Left as it ends, or not at all. -/
def only (Q : Exit → Act → World → Prop) : Exit → Act → World → Prop
  | .normal, a, w => Q .normal a w
  | _, _, _ => False
theorem upon_in {o : Oper} {a : Act} {next next' : Act → World → Prop} (hn : ∀ a w, next a w → next' a w) {r : Result Next} (h : o.upon P a next (only Q) r) : o.uponIn (Fence.wide.inRound l) n P a next' (only Q) r := by
  cases r with
  | ok v w =>
    cases v with
    | value v => exact hn _ _ h
    | skip => exact hn _ _ h
    | defer d => exact hn _ _ h
    | enter f args =>
      refine ⟨(fun h => by cases h), ?_⟩
      refine (((callsIn_wide (n := n - 1)).2 h).mono ?_).inRound l
      rintro e w' h2
      cases e with
      | returned v => exact hn _ _ h2
      | panicked c => exact h2
      | outgrown => exact h2
    | row row args =>
      refine ⟨(fun h => by cases h), fun c cs _ => ?_⟩
      obtain ⟨v, w', r, s⟩ := h c cs
      exact ⟨v, w', hn _ _ r, stepsIn_wide.2 s⟩
    | _ => exact h.elim
  | halt s w =>
    cases s with
    | panic v => exact h
    | _ => exact h.elim
theorem lets_not : ¬ LetsOut (only Q) := fun h => by
  obtain ⟨a, w, h⟩ := h
  exact h
theorem wpAny_in (hd : ∀ (i : Nat) o, ops[i]? = some o → ∀ c, o.op ≠ .defer c) : ∀ (fuel : Nat) (listed : Array Bool) (a : Act) (w : World), wpAny P md ops (only Q) fuel listed a w → wpAnyIn (Fence.wide.inRound l) n P md ops (only Q) fuel listed a w
  | 0, _, _, _, h => h
  | fuel + 1, listed, a, w, h => by
    refine ⟨h.1, fun i hi => ?_⟩
    have h2 := h.2 i hi
    unfold wpOp at h2
    unfold wpOpIn
    cases ho : ops[i]? with
    | none => rw [ho] at h2; exact wpAny_in hd fuel _ _ _ h2
    | some o =>
      rw [ho] at h2
      dsimp only at h2 ⊢
      split
      · rename_i hw
        rw [if_pos hw] at h2
        rcases h2 with h2 | h2
        · refine ⟨fun _ _ => trivial, ?_⟩
          rw [show (Fence.wide.inRound l).round = some l from rfl, Oper.semAt_some _ _ _ (hd i o ho)]
          exact upon_in (fun a w hh => wpAny_in hd fuel _ a w hh) h2
        · exact absurd h2.2 lets_not
      · rename_i hw
        rw [if_neg hw] at h2
        exact ⟨fun _ _ => trivial, wpAny_in hd fuel _ _ _ h2⟩
theorem region_in {id : Nat} {a : Act} {w : World} (hm : P.follows .mixedOrders = true) (hd : ∀ (i : Nat) o, ops[i]? = some o → ∀ c, o.op ≠ .defer c)
    (h : wpAny P .any ops (only Q) ops.size (Array.replicate ops.size false) a { w with drawn := w.drawn + 1 }) : (Code.region id ops true).wpIn (Fence.wide.inRound l) n P Q a w := by
  refine wpIn_mono (Q := only Q) (wpIn_region_any hm (wpAny_in hd _ _ _ _ h)) ?_
  rintro e a w h
  cases e with
  | normal => exact h
  | _ => exact h.elim
def noDefer (ops : Array Oper) : Bool := ops.all fun o => match o.op with | .defer _ => false | _ => true
theorem noDefer_of (h : noDefer ops = true) : ∀ (i : Nat) o, ops[i]? = some o → ∀ c, o.op ≠ .defer c := fun i o ho c e => by
  have := Array.all_eq_true_iff_forall_mem.1 h o (Array.mem_of_getElem? ho)
  rw [e] at this
  cases this
theorem region_in_quiet {id : Nat} {a : Act} {w : World} {ol : List Oper} (hm : P.follows .mixedOrders = true) (hd : noDefer ol.toArray = true) (hB : Region.lexB .any ol.toArray = true)
    (h : wpQuiet P ol.toArray (fun w' => ∃ n, w' = w.drewN n) (fun a' => ∀ w', (∃ n, w' = w.drewN n) → Q .normal a' w') ol a) : (Code.region id ol.toArray true).wpIn (Fence.wide.inRound l) n P Q a w := by
  refine region_in hm (noDefer_of hd) ?_
  simp only [Region.lexB, Bool.and_eq_true] at hB
  have hC : (fun w' => ∃ n, w' = w.drewN n) { w with drawn := w.drawn + 1 } := ⟨1, rfl⟩
  refine wpAny_of_quiet (Q' := only Q) (C := fun w' => ∃ n, w' = w.drewN n) (Q := fun a' => ∀ w', (∃ n, w' = w.drewN n) → Q .normal a' w') (fun _ w' hw' h => h w' hw') _ _ _ _ hC ?_
  have := wpAnyQ_lex (C := fun w' => ∃ n, w' = w.drewN n) (md := .any) hB.1 ol 0 (Array.replicate ol.toArray.size false) a (by simp) (by simpa using hB.2) h
  simpa using this
theorem start_in {S : World → Prop} {ds : List Nat} {id n0 : Nat} {a : Act} {w : World} (lb : Array Bool) (hm : P.follows .mixedOrders = true) (hd : noDefer ops = true) (hn : ops.size = n0) (hl : Array.replicate n0 false = lb) (hS : S w.drew)
    (h : S w.drew → wpAnyLast P .any ops (only Q) S ds n0 lb a w.drew) : (Code.region id ops true).wpIn (Fence.wide.inRound l) n P Q a w := by
  subst hn
  subst hl
  exact region_in hm (noDefer_of hd) (wpAny_of_last _ _ _ _ (h hS))
end
end Go.Proofs.YtbffgpfkgmhmhaaGreatDoor.Dw
/- Crash (function 35). -/
set_option linter.unusedVariables false
set_option linter.unusedSimpArgs false
namespace Go.Proofs.YtbffgpfkgmhmhaaGreatDoor.Dw
open Go.RowKit Go.Maps Go.Sort Go.Shelf Go.Proofs.YtbffgpfkgmhmhaaGreatDoorW.PrintWords Go.Proofs.YtbffgpfkgmhmhaaGreatDoorW.PrintLast Go.Proofs.YtbffgpfkgmhmhaaGreatDoorW.PrintMore Go.Proofs.Dk
attribute [local go_sem] Oper.semAt_some
set_option maxRecDepth 100000
/-- What stands of the files when pre has come. -/
def crF (keep : List Int) {L : Lf} (pre : List (Row L)) : Nat × Lf := pre.foldl (fun s x => (s.1 + 1, upd s.2 x.1.1 (fun v => (v.1, cut keep s.1 v.2)))) (0, L)
theorem crF_snoc (keep : List Int) {L : Lf} (pre : List (Row L)) (x : Row L) : crF keep (pre ++ [x]) = ((crF keep pre).1 + 1, upd (crF keep pre).2 x.1.1 (fun v => (v.1, cut keep (crF keep pre).1 v.2))) := by simp [crF]
theorem snoc_ind {α : Type} {P : List α → Prop} (h0 : P []) (h1 : ∀ l x, P l → P (l ++ [x])) (l : List α) : P l := by
  have : ∀ r : List α, P r.reverse := fun r => by
    induction r with
    | nil => exact h0
    | cons x r ih => rw [List.reverse_cons]; exact h1 _ _ ih
  have h := this l.reverse
  rwa [List.reverse_reverse] at h
theorem crF_len (keep : List Int) {L : Lf} (pre : List (Row L)) : (crF keep pre).1 = pre.length := by
  induction pre using snoc_ind with
  | h0 => rfl
  | h1 pre x ih => rw [crF_snoc]; simp [ih]
theorem crF_blocks (keep : List Int) {L : Lf} (pre : List (Row L)) : (crF keep pre).2.map (fun r => (r.1, r.2.1)) = L.map (fun r => (r.1, r.2.1)) := by
  induction pre using snoc_ind with
  | h0 => rfl
  | h1 pre x ih =>
    rw [crF_snoc, ← ih]
    simp only [upd, List.map_map]
    apply List.map_congr_left
    intro r _
    simp only [Function.comp_apply]
    split <;> rfl
theorem crF_at (keep : List Int) {L : Lf} (pre : List (Row L)) (x : Row L) : ∃ f, (x.1.1, (x.1.2.1, f)) ∈ (crF keep pre).2 := by
  have h : (x.1.1, x.1.2.1) ∈ (crF keep pre).2.map (fun r => (r.1, r.2.1)) := by
    rw [crF_blocks]
    exact List.mem_map_of_mem (f := fun r : Tx × (Nat × Fl) => (r.1, r.2.1)) x.2
  obtain ⟨r, hr, e⟩ := List.mem_map.1 h
  refine ⟨r.2.2, ?_⟩
  have e1 : r.1 = x.1.1 := (Prod.mk.inj e).1
  have e2 : r.2.1 = x.1.2.1 := (Prod.mk.inj e).2
  rw [← e1, ← e2]
  exact hr
theorem upd_append {α : Type} (a b : List (Tx × α)) (n : Tx) (f : α → α) : upd (a ++ b) n f = upd a n f ++ upd b n f := by simp [upd]
theorem upd_absent {α : Type} {l : List (Tx × α)} {n : Tx} (h : ∀ p ∈ l, p.1 ≠ n) (f : α → α) : upd l n f = l := by
  have : ∀ p ∈ l, (if p.1 == n then (p.1, f p.2) else p) = p := fun p hp => by simp [h p hp]
  exact (List.map_congr_left this).trans (List.map_id' l)
theorem crashAt_append (keep : List Int) : ∀ (i : Nat) (a b : FS), crashAt keep i (a ++ b) = crashAt keep i a ++ crashAt keep (i + a.length) b
  | i, [], b => by simp [crashAt]
  | i, p :: r, b => by
    simp only [List.cons_append, crashAt, crashAt_append keep (i + 1) r b, List.length_cons]
    rw [show i + 1 + r.length = i + (r.length + 1) by omega]
theorem crF_fs (keep : List Int) {L : Lf} (hL : Sorted (fs L)) : ∀ (xs : List (Row L)), xs.map (·.1) = L.take xs.length → fs (crF keep xs).2 = crashAt keep 0 ((fs L).take xs.length) ++ (fs L).drop xs.length := by
  intro xs
  induction xs using snoc_ind with
  | h0 => intro _; simp [crF, crashAt]
  | h1 pre x ih =>
    intro h
    rw [List.map_append, List.length_append] at h
    simp only [List.map_cons, List.map_nil, List.length_cons, List.length_nil] at h
    have hlt : pre.length < L.length := by
      have := congrArg List.length h
      simp only [List.length_append, List.length_map, List.length_cons, List.length_nil, List.length_take] at this
      omega
    rw [List.take_succ_eq_append_getElem hlt] at h
    have hp := List.append_inj h (by rw [List.length_map, List.length_take]; omega)
    have hx : x.1 = L[pre.length] := by simpa using hp.2
    rw [crF_snoc, fs_upd, ih hp.1, crF_len]
    have hlt2 : pre.length < (fs L).length := by rw [show (fs L).length = L.length from vals_len _ _]; exact hlt
    have hxn : x.1.1 = ((fs L)[pre.length]).1 := by rw [hx]; simp [vals]
    rw [List.length_append]
    simp only [List.length_cons, List.length_nil]
    rw [List.take_succ_eq_append_getElem hlt2, crashAt_append, List.length_take, Nat.min_eq_left (by omega), Nat.zero_add, upd_append, List.append_assoc]
    have hd : (fs L).drop pre.length = (fs L)[pre.length] :: (fs L).drop (pre.length + 1) := List.drop_eq_getElem_cons hlt2
    have hs2 : (fs L).take pre.length ++ (fs L)[pre.length] :: (fs L).drop (pre.length + 1) = fs L := by rw [← hd, List.take_append_drop]
    have hs3 : Sorted ((fs L).take pre.length ++ (fs L)[pre.length] :: (fs L).drop (pre.length + 1)) := by rw [hs2]; exact hL
    simp only [Sorted, List.pairwise_append, List.pairwise_cons] at hs3
    congr 1
    · refine upd_absent (fun p hp2 => ?_) _
      obtain ⟨r, hr, j, rfl⟩ := crash_mem hp2
      rw [hxn]
      exact before_ne (hs3.2.2 r hr _ (List.mem_cons_self ..))
    · rw [hd]
      simp only [upd, List.map_cons, crashAt, List.cons_append, List.nil_append]
      have e : ((fs L)[pre.length].1 == x.1.1) = true := by rw [hxn]; simp
      rw [if_pos e]
      congr 1
      refine upd_absent (fun p hp2 => ?_) _
      rw [hxn]
      exact (before_ne (hs3.2.1.1 p hp2)).symm
theorem crF_all (keep : List Int) {L : Lf} (hL : Sorted (fs L)) (xs : List (Row L)) (h : xs.map (·.1) = L) : fs (crF keep xs).2 = crash keep (fs L) := by
  have hl : xs.length = L.length := by have := congrArg List.length h; simpa using this
  have h1 := crF_fs keep hL xs (by rw [hl, List.take_length]; exact h)
  have h2 : (fs L).length = xs.length := by rw [hl]; exact vals_len _ _
  rw [h1, ← h2, List.take_length, List.drop_length, List.append_nil]
  rfl
/-- All cells but the files' lie as they lay. -/
def Fr (w : World) (L : Lf) (W : World) : Prop := ∀ k o, w.heap[k]? = some o → (∀ r ∈ L, k ≠ r.2.1) → W.heap[k]? = some o
theorem Fr.cell {w W : World} {L : Lf} (h : Fr w L W) {a : Addr} {v : Value} (hc : w.cell? a = some v) (hn : ∀ r ∈ L, a.block ≠ r.2.1) : W.cell? a = some v := by
  have hc2 := hc
  unfold World.cell? at hc
  cases ho : w.heap[a.block]? with
  | none => simp [ho] at hc
  | some o =>
    cases o with
    | cells cs t fr =>
      have := h _ _ ho hn
      rw [← hc2]
      unfold World.cell?
      rw [ho, this]
    | _ => simp [ho] at hc
/-- One block has been written. -/
structure Wrt (base b : Nat) (W W' : World) : Prop where
  other : ∀ k, k ≠ b → W'.heap[k]? = W.heap[k]?
  size : W'.heap.size = W.heap.size
  below : RowKit.Below base W W'
theorem bs_take (l : Tx) (n : Nat) : (bs l).extract 0 n = bs (l.take n) := by
  apply ByteArray.ext
  simp [bs, ByteArray.data_extract]
theorem wrt_drewN (base b : Nat) (W : World) (n : Nat) : Wrt base b W (W.drewN n) := ⟨fun k _ => by rw [World.heap_drewN], by rw [World.heap_drewN], pw_below_drewN (RowKit.Below.refl _ _) n⟩
theorem wrt_set {base b : Nat} {W W' : World} (h : Wrt base b W W') (hb : base ≤ b) (j : Nat) (v : Value) : Wrt base b W (W'.setCell ⟨b, j, none⟩ v) where
  other := fun k hk => (RowKit.Below.heap_setCell _ _ _ _ hk).trans (h.other k hk)
  size := by rw [← h.size]; simp [World.setCell]
  below := h.below.setCell (p := ⟨b, j, none⟩) hb v
theorem wrt_drew {base b : Nat} {W W' : World} (h : Wrt base b W W') : Wrt base b W W'.drew := ⟨h.other, h.size, h.below.drew⟩
theorem cut_of (keep : List Int) (i : Nat) (f : Fl) {S2 : Nat} (h : f.s + more keep i f = S2) : cut keep i f = ⟨f.b.take S2, S2⟩ := by
  rw [← h]; rfl
theorem ok_cut {q : Nat} {l : FS} (h : Ok q l) {n : Tx} {f : Fl} (hg : get l n = some f) (keep : List Int) (i : Nat) : Ok q (upd l n (cut keep i)) := by
  have h1 := h.sure (n, f) (get_mem hg)
  have h2 := h.file (n, f) (get_mem hg)
  have h3 := cut_len keep i f h1
  have h4 := more_le keep i f h1
  have h5 := h.room
  dsimp only at h1 h2
  have h6 : (cut keep i f).s ≤ f.b.length := h4
  exact h.upd n hg (cut keep i) (Nat.le_of_eq h3.symm) (by omega) (by omega)
set_option maxHeartbeats 4000000 in
theorem crash_full (w : World) {base d mb q : Nat} {L : Lf} (hD : IsD w base d mb q L) (A : Option Addr) (cap : Nat) (keep : List Int) (hkl : keep.length ≤ 9223372036854775807)
    (hkc : ∀ (j : Nat) (h : j < keep.length), ∃ ad, A = some ad ∧ w.cell? (ad.add j) = some (.int .i64 keep[j]) ∧ ∀ r ∈ L, ad.block ≠ r.2.1) :
    Calls Tryz.prog 70 #[.pointer (some ⟨d, 0, none⟩), .slice A keep.length cap] w fun e w' => (∃ v, e = .returned v) ∧ RowKit.Below base w w' ∧ ∃ L', fs L' = crash keep (fs L) ∧ IsD w' base d mb q L' ∧ Turn w w' mb L L' := by
  have hl64 : L.length ≤ 64 := by have := hD.ok.few; rw [vals_len] at this; exact this
  have hdl := heap_lt hD.top
  have hml := hD.map.lt
  have hbl := hD.size
  have hf1 : Fence.wide.fn 53 := trivial
  have hmix : Tryz.prog.follows .mixedOrders = true := by kernel_rfl
  have HKc := Lib.hid hkc
  clear hkc
  refine (callsIn_wide (n := 7)).1 ?_
  refine callsIn_of_wp_marks Tryz.func70 rfl trivial ?_ rfl
  simp only [Tryz.ntmps70, List.size_toArray, List.length_cons, List.length_nil, Nat.reduceAdd, Nat.reduceSub, Array.replicate_succ, Array.replicate_zero, List.push_toArray, List.append_toArray, List.nil_append, List.cons_append]
  gi_wp2_with (gi_at_call 53; refine (callsIn_wide.2 (each_calls _ _)).mono ?_; rintro e w' ⟨rfl, rfl⟩)
  have HDb := Lib.hid hD
  obtain ⟨W1, hW1⟩ : ∃ W1, ((w.alloc (.cells #[.slice A keep.length cap] 48)).alloc (.cells #[.int .i64 0] 3)).alloc (.cells #[.pointer (some ⟨d, 0, none⟩)] 32) = W1 := ⟨_, rfl⟩
  have hsz1 : W1.heap.size = w.heap.size + 3 := by rw [← hW1]; simp
  have HW1 := Lib.hid (show RowKit.Below w.heap.size w W1 by rw [← hW1]; exact (((RowKit.Below.refl _ w).alloc (Nat.le_refl _) _).alloc (by simp) _).alloc (by simp; omega) _)
  have hbk : Boxed W1 w.heap.size 48 (.slice A keep.length cap) := by rw [← hW1]; exact ((Boxed.new w 48 _).alloc _).alloc _
  have hbi : Boxed W1 (w.heap.size + 1) 3 (.int .i64 0) := by
    rw [← hW1]
    have := (Boxed.new (w.alloc (.cells #[.slice A keep.length cap] 48)) 3 (.int .i64 0)).alloc (.cells #[.pointer (some ⟨d, 0, none⟩)] 32)
    rw [World.size_alloc] at this
    exact this
  have hs1 : W1.cell? ⟨w.heap.size + 1 + 1, 0, none⟩ = some (.pointer (some ⟨d, 0, none⟩)) := by
    rw [← hW1]
    have := cell_new_l3 (w.alloc (.cells #[.slice A keep.length cap] 48)) (.cells #[.int .i64 0] 3) (.pointer (some ⟨d, 0, none⟩)) 32
    rw [World.size_alloc] at this
    exact this
  rw [hW1]
  clear hD
  have hfl : ∀ r ∈ L, r.2.1 < w.heap.size ∧ r.2.1 ≠ d ∧ r.2.1 ≠ mb := fun r hr => ⟨heap_lt (HDb.out.file r hr), (fun e => by have h1 := HDb.out.file r hr; rw [e, HDb.out.top] at h1; cases h1), HDb.out.ne_mb hr⟩
  refine wpIn_rangeFunc_ownG rfl (by omega) (gf := 95) (lb := #[.pointer (some ⟨w.heap.size + 1 + 1, 0, none⟩)]) rfl trivial (enters_of Tryz.func95 (by kernel_rfl) rfl)
    (each_stops (fun _ k => k = w.heap.size + 1 ∨ ∃ r ∈ L, k = r.2.1) W1 (HDb.out.below HW1.out) (w.heap.size + 1 + 1) hs1 (fun _ _ _ h => h) ?own2)
    (fun h k => h.trans k) (fun W l o o' hl h hc hw => keep_putObj W l o o' h hc hw) (RowKit.Below.refl _ _) (fun _ => rfl)
    (fun pre W => (Boxed W w.heap.size 48 (.slice A keep.length cap) ∧ Boxed W (w.heap.size + 1) 3 (.int .i64 (pre.length : Int)) ∧ IsD W base d mb q (crF keep pre).2 ∧ Fr w L W) ∧ RowKit.Below base w W)
    (fun _ _ _ => False)
    (OwnFrom.and (fun s X Y row hs hg hr => by
      obtain ⟨h1, h2, h3, h4⟩ := hs
      have hcl : ∀ k o, X.heap[k]? = some o → (o.isCells = true ∨ k < w.heap.size) → Y.heap[k]? = some o := fun k o hk ho => by
        refine (hg.block k (heap_lt hk) (fun e => ?_)).trans hk
        obtain ⟨hlow, o2, ho2, hc⟩ := hr _ e.symm
        rw [hk] at ho2
        cases ho2
        rcases ho with ho | ho
        · rw [hc] at ho; cases ho
        · omega
      exact ⟨hcl _ _ h1 (Or.inl rfl), hcl _ _ h2 (Or.inl rfl), h3.same (fun k o hk hk2 => by
        rcases hk2 with rfl | rfl | ⟨p, hp, rfl⟩
        · rw [h3.top] at hk; cases hk; exact hcl _ _ h3.top (Or.inl rfl)
        · exact hcl _ _ hk (Or.inr hml)
        · rw [h3.file p hp] at hk; cases hk; exact hcl _ _ (h3.file p hp) (Or.inl rfl)), fun k o hk hn => hcl _ _ (h4 k o hk hn) (Or.inr (heap_lt hk))⟩) (ownFrom_below (by omega) (by omega)))
    (fun _ _ _ _ _ hs _ _ => hs)
    ⟨⟨hbk, hbi, HDb.out.below HW1.out, fun k o hk _ => (HW1.out.block k (heap_lt hk)).trans hk⟩, HW1.out.mono hbl⟩
    (fun x => { tmps := #[.pointer (some ⟨d, 0, none⟩), .slice A keep.length cap, undef, .pointer (some ⟨w.heap.size, 0, none⟩), .pointer (some ⟨w.heap.size + 1, 0, none⟩), undef, .pointer (some ⟨x.1.2.1, 0, none⟩), undef, undef, .pointer (some ⟨d, 0, none⟩), .func (.func 95) #[] #[.pointer (some ⟨w.heap.size + 1 + 1, 0, none⟩)], .string (bs x.1.1), .pointer (some ⟨x.1.2.1, 0, none⟩), undef, undef, undef, undef, undef, undef, undef, undef, undef, undef, undef, undef, undef, undef, undef, undef, undef, undef, undef, undef, undef, undef, undef, undef, undef, undef, undef, undef, undef, undef, undef, undef, undef, undef, undef, undef, undef, undef, undef, undef, undef, undef, undef, undef, undef, undef, undef, undef, undef], defers := [] }) ?assign ?body ?done ?stop
  case own2 =>
    rintro k (rfl | ⟨r, hr, rfl⟩)
    · omega
    · have := hfl r hr; omega
  case assign =>
    intro l x W K hK
    dsimp only [encF]
    gi_wp2
    exact hK
  case body =>
    rintro l pre x W ⟨⟨hbk2, hbi2, hDw, hFr⟩, hB⟩ hlen
    obtain ⟨f, hf⟩ := crF_at keep pre x
    have hfile := hDw.file _ hf
    have c0 := cells_of hfile (j := 0) (v := .string (bs f.b)) rfl
    have c1 := cells_of hfile (j := 1) (v := .int .i64 f.s) rfl
    have hck := hbk2.cell
    have hci := hbi2.cell
    have hsu := hDw.ok.sure _ (List.mem_map_of_mem (f := fun r : Tx × (Nat × Fl) => (r.1, r.2.2)) hf)
    have hfb := hDw.ok.file _ (List.mem_map_of_mem (f := fun r : Tx × (Nat × Fl) => (r.1, r.2.2)) hf)
    dsimp only at hsu hfb hfile c0 c1
    have HB := Lib.hid hB
    have HDw := Lib.hid hDw
    have HFr := Lib.hid hFr
    have HF := Lib.hid hf
    have hsz := bs_size f.b
    clear hB hDw hFr hf HW1 hbk hbi hs1 hW1
    by_cases hk0 : 0 < keep.length
    · have dk : decide ((0 : Int) < (keep.length : Int)) = true := decide_eq_true (by omega)
      have hke0 : ¬ keep = [] := fun e => by rw [e] at hk0; simp at hk0
      have hidx : pre.length % keep.length < keep.length := Nat.mod_lt _ hk0
      have hrm : Int.tmod (pre.length : Int) (keep.length : Int) = ((pre.length % keep.length : Nat) : Int) := (Int.ofNat_tmod _ _).symm
      have hmore := Lib.hid (show more keep pre.length f = (keep[pre.length % keep.length] % ((f.b.length - f.s + 1 : Nat) : Int)).toNat by unfold more; rw [dif_pos hk0])
      obtain ⟨⟨ab, ao, as_⟩, rfl, hce, hna⟩ := HKc.out _ hidx
      have hke := (HFr.out.cell hce (fun r hr => by have := hna r hr; unfold Addr.add; split <;> exact this))
      generalize hix : pre.length % keep.length = ix at *
      have hk1 : 0 ≤ (ix : Int) := by omega
      have hk2 : (ix : Int) < (keep.length : Int) := by omega
      have hk3 : decide ((ix : Int) < (keep.length : Int)) = true := decide_eq_true hk2
      clear hix hce hna
      gi_wp2
      refine region_in_quiet hmix (by kernel_rfl) (by kernel_rfl) ?_
      repeat (quiet_step (fail))
      refine wpQuiet_nil ?_
      intro _ hw'
      obtain ⟨nq, hw''⟩ := hw'
      subst hw''
      generalize keep[ix] = kv at *
      clear hke hk1 hk2 hk3 hrm hke0 dk
      gi_wp2
      refine region_in_quiet hmix (by kernel_rfl) (by kernel_rfl) ?_
      repeat (quiet_step (fail))
      refine wpQuiet_nil ?_
      intro _ hw'
      obtain ⟨nq2, hw''⟩ := hw'
      subst hw''
      rw [World.drewN_drewN]
      generalize nq + nq2 = N2
      obtain ⟨M, hM⟩ : ∃ M, f.b.length - f.s + 1 = M := ⟨_, rfl⟩
      have hMp : 0 < (M : Int) := by omega
      have hw1 : IntKind.i64.wrap (IntKind.i64.wrap ((f.b.length : Int) - (f.s : Int)) + 1) = (M : Int) := by rw [IntWalk.i64_in ((f.b.length : Int) - (f.s : Int)) ⟨by omega, by omega⟩, IntWalk.i64_in _ ⟨by omega, by omega⟩]; omega
      rw [hw1]
      obtain ⟨E, hE⟩ : ∃ E : Nat, kv % (M : Int) = (E : Int) := ⟨(kv % (M : Int)).toNat, (Int.toNat_of_nonneg (Int.emod_nonneg _ (by omega))).symm⟩
      have hEM : E < M := by have := Int.emod_lt_of_pos kv hMp; omega
      obtain ⟨S2, hS2⟩ : ∃ S2, f.s + E = S2 := ⟨_, rfl⟩
      have hS2l : S2 ≤ f.b.length := by omega
      have HC := Lib.hid (cut_of keep pre.length f (S2 := S2) (by rw [hmore.out, hM, hE]; exact hS2))
      obtain ⟨T, hT⟩ : ∃ T, Int.tmod kv (M : Int) = T := ⟨_, rfl⟩
      have hTb := tmod_gt kv (M : Int) hMp
      rw [hT] at hTb
      have hT2 : Int.tmod (T + (M : Int)) (M : Int) = (E : Int) := by rw [← hT, round_is kv _ hMp, hE]
      have hT3 : IntKind.i64.wrap (T + (M : Int)) = T + (M : Int) := IntWalk.i64_in _ ⟨by omega, by omega⟩
      have hT4 : IntKind.i64.wrap ((f.s : Int) + (E : Int)) = (S2 : Int) := by rw [IntWalk.i64_in _ ⟨by omega, by omega⟩]; omega
      have hM0 : ¬ M = 0 := by omega
      clear hw1 hTb hE hS2 hEM hMp hM
      have z1 := blk_frozen hfile 1
      gi_wp2
      refine start_in (n0 := 15) (S := (fun w' => w'.cell? ⟨x.1.2.1, 1, none⟩ = some (.int .i64 f.s))) (ds := [14]) #[false, false, false, false, false, false, false, false, false, false, false, false, false, false, false] hmix (by kernel_rfl) rfl rfl (show (W.drewN N2).drew.cell? ⟨x.1.2.1, 1, none⟩ = _ from c1) (fun hHeld => ?_)
      refine pure_ (i := 0) (N := some 34) (v := ?_) (a' := ?_) #[true, false, false, false, false, false, false, false, false, false, false, false, false, false, false] rfl rfl (by kernel_rfl) (fun _ _ _ h => h) (Or.inl ⟨by rfl, ?_⟩) ?_ ?_
      rotate_left
      · intro w'
        go_simp
        with_reducible rfl
      rotate_left
      · simp only [Act.put, List.setIfInBounds_toArray, List.set_cons_zero, List.set_cons_succ, i64_w, i32_w]
        rfl
      refine pure_ (i := 1) (N := some 35) (v := ?_) (a' := ?_) #[true, true, false, false, false, false, false, false, false, false, false, false, false, false, false] rfl rfl (by kernel_rfl) (fun _ _ _ h => h) (Or.inl ⟨by rfl, ?_⟩) ?_ ?_
      rotate_left
      · intro w'
        go_simp
        with_reducible rfl
      rotate_left
      · simp only [Act.put, List.setIfInBounds_toArray, List.set_cons_zero, List.set_cons_succ, i64_w, i32_w]
        rfl
      refine pure_ (i := 2) (N := some 36) (v := ?_) (a' := ?_) #[true, true, true, false, false, false, false, false, false, false, false, false, false, false, false] rfl rfl (by kernel_rfl) (fun _ _ _ h => h) (Or.inl ⟨by rfl, ?_⟩) ?_ ?_
      rotate_left
      · intro w'
        go_simp
        with_reducible rfl
      rotate_left
      · simp only [Act.put, List.setIfInBounds_toArray, List.set_cons_zero, List.set_cons_succ, i64_w, i32_w]
        rfl
      refine take_ (i := 3) (N := some 37) (v := ?_) (a' := ?_) #[true, true, true, true, false, false, false, false, false, false, false, false, false, false, false] rfl rfl (by kernel_rfl) (fun _ _ _ h => h) (Or.inl ⟨by rfl, ?_⟩) hHeld ?_ ?_
      rotate_left
      · rintro w' hS
        go_simp
        with_reducible rfl
      rotate_left
      · simp only [Act.put, List.setIfInBounds_toArray, List.set_cons_zero, List.set_cons_succ, i64_w, i32_w]
        rfl
      refine pure_ (i := 4) (N := some 38) (v := ?_) (a' := ?_) #[true, true, true, true, true, false, false, false, false, false, false, false, false, false, false] rfl rfl (by kernel_rfl) (fun _ _ _ h => h) (Or.inl ⟨by rfl, ?_⟩) ?_ ?_
      rotate_left
      · intro w'
        go_simp
        with_reducible rfl
      rotate_left
      · simp only [Act.put, List.setIfInBounds_toArray, List.set_cons_zero, List.set_cons_succ, i64_w, i32_w]
        rfl
      refine pure_ (i := 5) (N := some 39) (v := ?_) (a' := ?_) #[true, true, true, true, true, true, false, false, false, false, false, false, false, false, false] rfl rfl (by kernel_rfl) (fun _ _ _ h => h) (Or.inl ⟨by rfl, ?_⟩) ?_ ?_
      rotate_left
      · intro w'
        go_simp
        with_reducible rfl
      rotate_left
      · simp only [Act.put, List.setIfInBounds_toArray, List.set_cons_zero, List.set_cons_succ, i64_w, i32_w]
        rfl
      refine pure_ (i := 6) (N := some 40) (v := ?_) (a' := ?_) #[true, true, true, true, true, true, true, false, false, false, false, false, false, false, false] rfl rfl (by kernel_rfl) (fun _ _ _ h => h) (Or.inl ⟨by rfl, ?_⟩) ?_ ?_
      rotate_left
      · intro w'
        go_simp
        with_reducible rfl
      rotate_left
      · simp only [Act.put, List.setIfInBounds_toArray, List.set_cons_zero, List.set_cons_succ, i64_w, i32_w]
        rfl
      refine pure_ (i := 7) (N := some 41) (v := ?_) (a' := ?_) #[true, true, true, true, true, true, true, true, false, false, false, false, false, false, false] rfl rfl (by kernel_rfl) (fun _ _ _ h => h) (Or.inl ⟨by rfl, ?_⟩) ?_ ?_
      rotate_left
      · intro w'
        go_simp
        with_reducible rfl
      rotate_left
      · simp only [Act.put, List.setIfInBounds_toArray, List.set_cons_zero, List.set_cons_succ, i64_w, i32_w]
        rfl
      refine pure_ (i := 8) (N := some 42) (v := ?_) (a' := ?_) #[true, true, true, true, true, true, true, true, true, false, false, false, false, false, false] rfl rfl (by kernel_rfl) (fun _ _ _ h => h) (Or.inl ⟨by rfl, ?_⟩) ?_ ?_
      rotate_left
      · intro w'
        go_simp
        with_reducible rfl
      rotate_left
      · simp only [Act.put, List.setIfInBounds_toArray, List.set_cons_zero, List.set_cons_succ, i64_w, i32_w]
        rfl
      refine pure_ (i := 9) (N := some 43) (v := ?_) (a' := ?_) #[true, true, true, true, true, true, true, true, true, true, false, false, false, false, false] rfl rfl (by kernel_rfl) (fun _ _ _ h => h) (Or.inl ⟨by rfl, ?_⟩) ?_ ?_
      rotate_left
      · intro w'
        go_simp
        with_reducible rfl
      rotate_left
      · simp only [Act.put, List.setIfInBounds_toArray, List.set_cons_zero, List.set_cons_succ, i64_w, i32_w]
        rfl
      refine pure_ (i := 10) (N := some 44) (v := ?_) (a' := ?_) #[true, true, true, true, true, true, true, true, true, true, true, false, false, false, false] rfl rfl (by kernel_rfl) (fun _ _ _ h => h) (Or.inl ⟨by rfl, ?_⟩) ?_ ?_
      rotate_left
      · intro w'
        go_simp
        with_reducible rfl
      rotate_left
      · simp only [Act.put, List.setIfInBounds_toArray, List.set_cons_zero, List.set_cons_succ, i64_w, i32_w]
        rfl
      refine pure_ (i := 11) (N := some 45) (v := ?_) (a' := ?_) #[true, true, true, true, true, true, true, true, true, true, true, true, false, false, false] rfl rfl (by kernel_rfl) (fun _ _ _ h => h) (Or.inl ⟨by rfl, ?_⟩) ?_ ?_
      rotate_left
      · intro w'
        go_simp
        with_reducible rfl
      rotate_left
      · simp only [Act.put, List.setIfInBounds_toArray, List.set_cons_zero, List.set_cons_succ, i64_w, i32_w]
        rfl
      refine pure_ (i := 12) (N := some 46) (v := ?_) (a' := ?_) #[true, true, true, true, true, true, true, true, true, true, true, true, true, false, false] rfl rfl (by kernel_rfl) (fun _ _ _ h => h) (Or.inl ⟨by rfl, ?_⟩) ?_ ?_
      rotate_left
      · intro w'
        go_simp
        with_reducible rfl
      rotate_left
      · simp only [Act.put, List.setIfInBounds_toArray, List.set_cons_zero, List.set_cons_succ, i64_w, i32_w]
        rfl
      refine pure_ (i := 13) (N := some 47) (v := ?_) (a' := ?_) #[true, true, true, true, true, true, true, true, true, true, true, true, true, true, false] rfl rfl (by kernel_rfl) (fun _ _ _ h => h) (Or.inl ⟨by rfl, ?_⟩) ?_ ?_
      rotate_left
      · intro w'
        go_simp
        with_reducible rfl
      rotate_left
      · simp only [Act.put, List.setIfInBounds_toArray, List.set_cons_zero, List.set_cons_succ, i64_w, i32_w]
        rfl
      refine last_ (i := 14) (N := none) #[true, true, true, true, true, true, true, true, true, true, true, true, true, true, true] rfl rfl (by kernel_rfl) (by decide) (fun K hK => ?_)
      refine skip_ (w1 := ?_) (by rfl) rfl ?_ ?_
      rotate_left
      · go_simp
        rfl
      refine hK.out _ _ ?_
      clear hK K
      refine done_ (by kernel_rfl) ?_
      dsimp only [only]
      have hblo := HDw.out.flow _ HF.out
      dsimp only at hblo
      have HF3 := Lib.hid (set_file (show (W.drewN (N2 + 1)).heap[x.1.2.1]? = some (.cells (fcells f) 143) by rw [World.heap_drewN]; exact hfile) S2)
      have HQ3 := Lib.hid (wrt_set (wrt_drewN base x.1.2.1 W (N2 + 1)) hblo 1 (.int .i64 (S2 : Int)))
      generalize (W.drewN (N2 + 1)).setCell ⟨x.1.2.1, 1, none⟩ (.int .i64 (S2 : Int)) = W3 at *
      have z0 := blk_frozen HF3.out 0
      have d0 := cells_of HF3.out (j := 0) (v := .string (bs f.b)) rfl
      have d1 := cells_of HF3.out (j := 1) (v := .int .i64 S2) rfl
      have hex : (bs f.b).extract 0 S2 = bs (f.b.take S2) := bs_take f.b S2
      clear hT hT2 hT3 hT4 hM0
      gi_wp2
      refine start_in (n0 := 13) (S := (fun w' => w'.cell? ⟨x.1.2.1, 0, none⟩ = some (.string (bs f.b)) ∧ w'.cell? ⟨x.1.2.1, 1, none⟩ = some (.int .i64 S2))) (ds := [12]) #[false, false, false, false, false, false, false, false, false, false, false, false, false] hmix (by kernel_rfl) rfl rfl ⟨(show W3.drew.cell? ⟨x.1.2.1, 0, none⟩ = _ from d0), (show W3.drew.cell? ⟨x.1.2.1, 1, none⟩ = _ from d1)⟩ (fun hHeld => ?_)
      refine pure_ (i := 0) (N := some 48) (v := ?_) (a' := ?_) #[true, false, false, false, false, false, false, false, false, false, false, false, false] rfl rfl (by kernel_rfl) (fun _ _ _ h => h) (Or.inl ⟨by rfl, ?_⟩) ?_ ?_
      rotate_left
      · intro w'
        go_simp
        with_reducible rfl
      rotate_left
      · simp only [Act.put, List.setIfInBounds_toArray, List.set_cons_zero, List.set_cons_succ, i64_w, i32_w]
        rfl
      refine pure_ (i := 1) (N := some 49) (v := ?_) (a' := ?_) #[true, true, false, false, false, false, false, false, false, false, false, false, false] rfl rfl (by kernel_rfl) (fun _ _ _ h => h) (Or.inl ⟨by rfl, ?_⟩) ?_ ?_
      rotate_left
      · intro w'
        go_simp
        with_reducible rfl
      rotate_left
      · simp only [Act.put, List.setIfInBounds_toArray, List.set_cons_zero, List.set_cons_succ, i64_w, i32_w]
        rfl
      refine pure_ (i := 2) (N := some 50) (v := ?_) (a' := ?_) #[true, true, true, false, false, false, false, false, false, false, false, false, false] rfl rfl (by kernel_rfl) (fun _ _ _ h => h) (Or.inl ⟨by rfl, ?_⟩) ?_ ?_
      rotate_left
      · intro w'
        go_simp
        with_reducible rfl
      rotate_left
      · simp only [Act.put, List.setIfInBounds_toArray, List.set_cons_zero, List.set_cons_succ, i64_w, i32_w]
        rfl
      refine pure_ (i := 3) (N := some 51) (v := ?_) (a' := ?_) #[true, true, true, true, false, false, false, false, false, false, false, false, false] rfl rfl (by kernel_rfl) (fun _ _ _ h => h) (Or.inl ⟨by rfl, ?_⟩) ?_ ?_
      rotate_left
      · intro w'
        go_simp
        with_reducible rfl
      rotate_left
      · simp only [Act.put, List.setIfInBounds_toArray, List.set_cons_zero, List.set_cons_succ, i64_w, i32_w]
        rfl
      refine take_ (i := 4) (N := some 52) (v := ?_) (a' := ?_) #[true, true, true, true, true, false, false, false, false, false, false, false, false] rfl rfl (by kernel_rfl) (fun _ _ _ h => h) (Or.inl ⟨by rfl, ?_⟩) hHeld ?_ ?_
      rotate_left
      · rintro w' ⟨hS0, hS1⟩
        go_simp
        with_reducible rfl
      rotate_left
      · simp only [Act.put, List.setIfInBounds_toArray, List.set_cons_zero, List.set_cons_succ, i64_w, i32_w]
        rfl
      refine pure_ (i := 5) (N := some 53) (v := ?_) (a' := ?_) #[true, true, true, true, true, true, false, false, false, false, false, false, false] rfl rfl (by kernel_rfl) (fun _ _ _ h => h) (Or.inl ⟨by rfl, ?_⟩) ?_ ?_
      rotate_left
      · intro w'
        go_simp
        with_reducible rfl
      rotate_left
      · simp only [Act.put, List.setIfInBounds_toArray, List.set_cons_zero, List.set_cons_succ, i64_w, i32_w]
        rfl
      refine pure_ (i := 6) (N := some 54) (v := ?_) (a' := ?_) #[true, true, true, true, true, true, true, false, false, false, false, false, false] rfl rfl (by kernel_rfl) (fun _ _ _ h => h) (Or.inl ⟨by rfl, ?_⟩) ?_ ?_
      rotate_left
      · intro w'
        go_simp
        with_reducible rfl
      rotate_left
      · simp only [Act.put, List.setIfInBounds_toArray, List.set_cons_zero, List.set_cons_succ, i64_w, i32_w]
        rfl
      refine pure_ (i := 7) (N := some 55) (v := ?_) (a' := ?_) #[true, true, true, true, true, true, true, true, false, false, false, false, false] rfl rfl (by kernel_rfl) (fun _ _ _ h => h) (Or.inl ⟨by rfl, ?_⟩) ?_ ?_
      rotate_left
      · intro w'
        go_simp
        with_reducible rfl
      rotate_left
      · simp only [Act.put, List.setIfInBounds_toArray, List.set_cons_zero, List.set_cons_succ, i64_w, i32_w]
        rfl
      refine take_ (i := 8) (N := some 56) (v := ?_) (a' := ?_) #[true, true, true, true, true, true, true, true, true, false, false, false, false] rfl rfl (by kernel_rfl) (fun _ _ _ h => h) (Or.inl ⟨by rfl, ?_⟩) hHeld ?_ ?_
      rotate_left
      · rintro w' ⟨hS0, hS1⟩
        go_simp
        with_reducible rfl
      rotate_left
      · simp only [Act.put, List.setIfInBounds_toArray, List.set_cons_zero, List.set_cons_succ, i64_w, i32_w]
        rfl
      refine pure_ (i := 9) (N := some 57) (v := ?_) (a' := ?_) #[true, true, true, true, true, true, true, true, true, true, false, false, false] rfl rfl (by kernel_rfl) (fun _ _ _ h => h) (Or.inl ⟨by rfl, ?_⟩) ?_ ?_
      rotate_left
      · intro w'
        go_simp
        with_reducible rfl
      rotate_left
      · simp only [Act.put, List.setIfInBounds_toArray, List.set_cons_zero, List.set_cons_succ, i64_w, i32_w]
        rfl
      refine pure_ (i := 10) (N := some 58) (v := ?_) (a' := ?_) #[true, true, true, true, true, true, true, true, true, true, true, false, false] rfl rfl (by kernel_rfl) (fun _ _ _ h => h) (Or.inl ⟨by rfl, ?_⟩) ?_ ?_
      rotate_left
      · intro w'
        go_simp
        with_reducible rfl
      rotate_left
      · simp only [Act.put, List.setIfInBounds_toArray, List.set_cons_zero, List.set_cons_succ, i64_w, i32_w]
        rfl
      refine pure_ (i := 11) (N := some 59) (v := ?_) (a' := ?_) #[true, true, true, true, true, true, true, true, true, true, true, true, false] rfl rfl (by kernel_rfl) (fun _ _ _ h => h) (Or.inl ⟨by rfl, ?_⟩) ?_ ?_
      rotate_left
      · intro w'
        go_simp
        with_reducible rfl
      rotate_left
      · simp only [Act.put, List.setIfInBounds_toArray, List.set_cons_zero, List.set_cons_succ, i64_w, i32_w]
        rfl
      refine last_ (i := 12) (N := none) #[true, true, true, true, true, true, true, true, true, true, true, true, true] rfl rfl (by kernel_rfl) (by decide) (fun K hK => ?_)
      refine skip_ (w1 := ?_) (by rfl) rfl ?_ ?_
      rotate_left
      · go_simp
        rfl
      refine hK.out _ _ ?_
      clear hK K
      refine done_ (by kernel_rfl) ?_
      dsimp only [only]
      have HF4 := Lib.hid (show (W3.setCell ⟨x.1.2.1, 0, none⟩ (.string (bs (f.b.take S2)))).drew.heap[x.1.2.1]? = some (.cells (fcells ⟨f.b.take S2, S2⟩) 143) from set_file0 HF3.out (f.b.take S2))
      have HQ4 := Lib.hid (wrt_drew (wrt_set HQ3.out hblo 0 (.string (bs (f.b.take S2)))))
      generalize (W3.setCell ⟨x.1.2.1, 0, none⟩ (.string (bs (f.b.take S2)))).drew = W4 at *
      have hxb := hfl x.1 x.2
      have hb4 : Boxed W4 (w.heap.size + 1) 3 (.int .i64 (pre.length : Int)) := (HQ4.out.other _ (by omega)).trans hbi2
      have hk4 : Boxed W4 w.heap.size 48 _ := (HQ4.out.other _ (by omega)).trans hbk2
      have hci4 := hb4.cell
      have hfz4 := hb4.frozen
      clear HF3 HQ3 hex z0 d0 d1 z1 c0 c1 hci hck
      gi_wp2
      have hcut : f.b.take S2 = (cut keep pre.length f).b ∧ S2 = (cut keep pre.length f).s := by rw [HC.out]; exact ⟨rfl, rfl⟩
      have hgf := get_of_mem HDw.out.sorted HF.out
      have HT := Lib.hid (HDw.out.turn hgf (cut keep pre.length) (w' := W4) (by dsimp only; rw [HC.out]; exact HF4.out) (fun k hk => HQ4.out.other k hk) (ok_cut HDw.out.ok (by have := fs_get (crF keep pre).2 x.1.1; rw [hgf] at this; exact this) keep pre.length))
      refine ⟨⟨by have := HQ4.out.size; simp [World.setCell]; omega, fun k o _ hk ho => ?_⟩, ⟨by have := HQ4.out.size; simp [World.setCell]; omega, fun k o hk ho hn => ?_, fun k h => Or.inl h⟩, ⟨?_, ?_, ?_, ?_⟩, ?_⟩
      · have h1 : k ≠ w.heap.size + 1 := fun e => by rw [e] at hk; rw [show W.heap[w.heap.size + 1]? = _ from hbi2] at hk; cases hk; cases ho
        have h2 : k ≠ x.1.2.1 := fun e => by rw [e, hfile] at hk; cases hk; cases ho
        rw [RowKit.Below.heap_setCell _ _ _ _ h1, HQ4.out.other k h2]
        exact hk
      · rw [RowKit.Below.heap_setCell _ _ _ _ (fun e => hn (Or.inl e)), HQ4.out.other k (fun e => hn (Or.inr ⟨x.1, x.2, e⟩))]
        exact hk
      · exact (RowKit.Below.heap_setCell _ _ _ _ (by dsimp only; omega)).trans hk4
      · have := Boxed.set (.int .i64 ((pre.length : Int) + 1)) hb4
        simpa using this
      · rw [crF_snoc, crF_len]
        refine HT.out.same (fun k o hk hk2 => ?_)
        refine (RowKit.Below.heap_setCell _ _ _ _ ?_).trans hk
        dsimp only
        rcases hk2 with rfl | rfl | ⟨p, hp, rfl⟩
        · omega
        · omega
        · have hpm : (p.1, p.2.1) ∈ L.map (fun r => (r.1, r.2.1)) := by
            rw [← crF_blocks keep (pre ++ [x]), crF_snoc, crF_len]
            exact List.mem_map_of_mem (f := fun r : Tx × (Nat × Fl) => (r.1, r.2.1)) hp
          obtain ⟨r, hr, e⟩ := List.mem_map.1 hpm
          have h3 := (hfl r hr).1
          have h4 : r.2.1 = p.2.1 := (Prod.mk.inj e).2
          omega
      · intro k o hk hn
        have h3 := heap_lt hk
        rw [RowKit.Below.heap_setCell _ _ _ _ (by dsimp only; omega), HQ4.out.other k (hn x.1 x.2)]
        exact HFr.out k o hk hn
      · exact (HB.out.trans HQ4.out.below).setCell (p := ⟨w.heap.size + 1, 0, none⟩) (by dsimp only; omega) _
    · have hk00 : keep = [] := List.eq_nil_of_length_eq_zero (by omega)
      have dk : decide ((0 : Int) < (keep.length : Int)) = false := decide_eq_false (by omega)
      have hm0 := Lib.hid (show more keep pre.length f = ((0 : Int) % ((f.b.length - f.s + 1 : Nat) : Int)).toNat by unfold more; rw [dif_neg hk0])
      clear hk00
      gi_wp2
      obtain ⟨kv, hkv⟩ : ∃ kv : Int, (0 : Int) = kv := ⟨0, rfl⟩
      have hmore := Lib.hid (show more keep pre.length f = (kv % ((f.b.length - f.s + 1 : Nat) : Int)).toNat by rw [← hkv]; exact hm0.out)
      rw [hkv]
      clear hkv dk hm0
      gi_wp2
      refine region_in_quiet hmix (by kernel_rfl) (by kernel_rfl) ?_
      repeat (quiet_step (fail))
      refine wpQuiet_nil ?_
      intro _ hw'
      obtain ⟨nq2, hw''⟩ := hw'
      subst hw''
      generalize nq2 = N2
      obtain ⟨M, hM⟩ : ∃ M, f.b.length - f.s + 1 = M := ⟨_, rfl⟩
      have hMp : 0 < (M : Int) := by omega
      have hw1 : IntKind.i64.wrap (IntKind.i64.wrap ((f.b.length : Int) - (f.s : Int)) + 1) = (M : Int) := by rw [IntWalk.i64_in ((f.b.length : Int) - (f.s : Int)) ⟨by omega, by omega⟩, IntWalk.i64_in _ ⟨by omega, by omega⟩]; omega
      rw [hw1]
      obtain ⟨E, hE⟩ : ∃ E : Nat, kv % (M : Int) = (E : Int) := ⟨(kv % (M : Int)).toNat, (Int.toNat_of_nonneg (Int.emod_nonneg _ (by omega))).symm⟩
      have hEM : E < M := by have := Int.emod_lt_of_pos kv hMp; omega
      obtain ⟨S2, hS2⟩ : ∃ S2, f.s + E = S2 := ⟨_, rfl⟩
      have hS2l : S2 ≤ f.b.length := by omega
      have HC := Lib.hid (cut_of keep pre.length f (S2 := S2) (by rw [hmore.out, hM, hE]; exact hS2))
      obtain ⟨T, hT⟩ : ∃ T, Int.tmod kv (M : Int) = T := ⟨_, rfl⟩
      have hTb := tmod_gt kv (M : Int) hMp
      rw [hT] at hTb
      have hT2 : Int.tmod (T + (M : Int)) (M : Int) = (E : Int) := by rw [← hT, round_is kv _ hMp, hE]
      have hT3 : IntKind.i64.wrap (T + (M : Int)) = T + (M : Int) := IntWalk.i64_in _ ⟨by omega, by omega⟩
      have hT4 : IntKind.i64.wrap ((f.s : Int) + (E : Int)) = (S2 : Int) := by rw [IntWalk.i64_in _ ⟨by omega, by omega⟩]; omega
      have hM0 : ¬ M = 0 := by omega
      clear hw1 hTb hE hS2 hEM hMp hM
      have z1 := blk_frozen hfile 1
      gi_wp2
      refine start_in (n0 := 15) (S := (fun w' => w'.cell? ⟨x.1.2.1, 1, none⟩ = some (.int .i64 f.s))) (ds := [14]) #[false, false, false, false, false, false, false, false, false, false, false, false, false, false, false] hmix (by kernel_rfl) rfl rfl (show (W.drewN N2).drew.cell? ⟨x.1.2.1, 1, none⟩ = _ from c1) (fun hHeld => ?_)
      refine pure_ (i := 0) (N := some 34) (v := ?_) (a' := ?_) #[true, false, false, false, false, false, false, false, false, false, false, false, false, false, false] rfl rfl (by kernel_rfl) (fun _ _ _ h => h) (Or.inl ⟨by rfl, ?_⟩) ?_ ?_
      rotate_left
      · intro w'
        go_simp
        with_reducible rfl
      rotate_left
      · simp only [Act.put, List.setIfInBounds_toArray, List.set_cons_zero, List.set_cons_succ, i64_w, i32_w]
        rfl
      refine pure_ (i := 1) (N := some 35) (v := ?_) (a' := ?_) #[true, true, false, false, false, false, false, false, false, false, false, false, false, false, false] rfl rfl (by kernel_rfl) (fun _ _ _ h => h) (Or.inl ⟨by rfl, ?_⟩) ?_ ?_
      rotate_left
      · intro w'
        go_simp
        with_reducible rfl
      rotate_left
      · simp only [Act.put, List.setIfInBounds_toArray, List.set_cons_zero, List.set_cons_succ, i64_w, i32_w]
        rfl
      refine pure_ (i := 2) (N := some 36) (v := ?_) (a' := ?_) #[true, true, true, false, false, false, false, false, false, false, false, false, false, false, false] rfl rfl (by kernel_rfl) (fun _ _ _ h => h) (Or.inl ⟨by rfl, ?_⟩) ?_ ?_
      rotate_left
      · intro w'
        go_simp
        with_reducible rfl
      rotate_left
      · simp only [Act.put, List.setIfInBounds_toArray, List.set_cons_zero, List.set_cons_succ, i64_w, i32_w]
        rfl
      refine take_ (i := 3) (N := some 37) (v := ?_) (a' := ?_) #[true, true, true, true, false, false, false, false, false, false, false, false, false, false, false] rfl rfl (by kernel_rfl) (fun _ _ _ h => h) (Or.inl ⟨by rfl, ?_⟩) hHeld ?_ ?_
      rotate_left
      · rintro w' hS
        go_simp
        with_reducible rfl
      rotate_left
      · simp only [Act.put, List.setIfInBounds_toArray, List.set_cons_zero, List.set_cons_succ, i64_w, i32_w]
        rfl
      refine pure_ (i := 4) (N := some 38) (v := ?_) (a' := ?_) #[true, true, true, true, true, false, false, false, false, false, false, false, false, false, false] rfl rfl (by kernel_rfl) (fun _ _ _ h => h) (Or.inl ⟨by rfl, ?_⟩) ?_ ?_
      rotate_left
      · intro w'
        go_simp
        with_reducible rfl
      rotate_left
      · simp only [Act.put, List.setIfInBounds_toArray, List.set_cons_zero, List.set_cons_succ, i64_w, i32_w]
        rfl
      refine pure_ (i := 5) (N := some 39) (v := ?_) (a' := ?_) #[true, true, true, true, true, true, false, false, false, false, false, false, false, false, false] rfl rfl (by kernel_rfl) (fun _ _ _ h => h) (Or.inl ⟨by rfl, ?_⟩) ?_ ?_
      rotate_left
      · intro w'
        go_simp
        with_reducible rfl
      rotate_left
      · simp only [Act.put, List.setIfInBounds_toArray, List.set_cons_zero, List.set_cons_succ, i64_w, i32_w]
        rfl
      refine pure_ (i := 6) (N := some 40) (v := ?_) (a' := ?_) #[true, true, true, true, true, true, true, false, false, false, false, false, false, false, false] rfl rfl (by kernel_rfl) (fun _ _ _ h => h) (Or.inl ⟨by rfl, ?_⟩) ?_ ?_
      rotate_left
      · intro w'
        go_simp
        with_reducible rfl
      rotate_left
      · simp only [Act.put, List.setIfInBounds_toArray, List.set_cons_zero, List.set_cons_succ, i64_w, i32_w]
        rfl
      refine pure_ (i := 7) (N := some 41) (v := ?_) (a' := ?_) #[true, true, true, true, true, true, true, true, false, false, false, false, false, false, false] rfl rfl (by kernel_rfl) (fun _ _ _ h => h) (Or.inl ⟨by rfl, ?_⟩) ?_ ?_
      rotate_left
      · intro w'
        go_simp
        with_reducible rfl
      rotate_left
      · simp only [Act.put, List.setIfInBounds_toArray, List.set_cons_zero, List.set_cons_succ, i64_w, i32_w]
        rfl
      refine pure_ (i := 8) (N := some 42) (v := ?_) (a' := ?_) #[true, true, true, true, true, true, true, true, true, false, false, false, false, false, false] rfl rfl (by kernel_rfl) (fun _ _ _ h => h) (Or.inl ⟨by rfl, ?_⟩) ?_ ?_
      rotate_left
      · intro w'
        go_simp
        with_reducible rfl
      rotate_left
      · simp only [Act.put, List.setIfInBounds_toArray, List.set_cons_zero, List.set_cons_succ, i64_w, i32_w]
        rfl
      refine pure_ (i := 9) (N := some 43) (v := ?_) (a' := ?_) #[true, true, true, true, true, true, true, true, true, true, false, false, false, false, false] rfl rfl (by kernel_rfl) (fun _ _ _ h => h) (Or.inl ⟨by rfl, ?_⟩) ?_ ?_
      rotate_left
      · intro w'
        go_simp
        with_reducible rfl
      rotate_left
      · simp only [Act.put, List.setIfInBounds_toArray, List.set_cons_zero, List.set_cons_succ, i64_w, i32_w]
        rfl
      refine pure_ (i := 10) (N := some 44) (v := ?_) (a' := ?_) #[true, true, true, true, true, true, true, true, true, true, true, false, false, false, false] rfl rfl (by kernel_rfl) (fun _ _ _ h => h) (Or.inl ⟨by rfl, ?_⟩) ?_ ?_
      rotate_left
      · intro w'
        go_simp
        with_reducible rfl
      rotate_left
      · simp only [Act.put, List.setIfInBounds_toArray, List.set_cons_zero, List.set_cons_succ, i64_w, i32_w]
        rfl
      refine pure_ (i := 11) (N := some 45) (v := ?_) (a' := ?_) #[true, true, true, true, true, true, true, true, true, true, true, true, false, false, false] rfl rfl (by kernel_rfl) (fun _ _ _ h => h) (Or.inl ⟨by rfl, ?_⟩) ?_ ?_
      rotate_left
      · intro w'
        go_simp
        with_reducible rfl
      rotate_left
      · simp only [Act.put, List.setIfInBounds_toArray, List.set_cons_zero, List.set_cons_succ, i64_w, i32_w]
        rfl
      refine pure_ (i := 12) (N := some 46) (v := ?_) (a' := ?_) #[true, true, true, true, true, true, true, true, true, true, true, true, true, false, false] rfl rfl (by kernel_rfl) (fun _ _ _ h => h) (Or.inl ⟨by rfl, ?_⟩) ?_ ?_
      rotate_left
      · intro w'
        go_simp
        with_reducible rfl
      rotate_left
      · simp only [Act.put, List.setIfInBounds_toArray, List.set_cons_zero, List.set_cons_succ, i64_w, i32_w]
        rfl
      refine pure_ (i := 13) (N := some 47) (v := ?_) (a' := ?_) #[true, true, true, true, true, true, true, true, true, true, true, true, true, true, false] rfl rfl (by kernel_rfl) (fun _ _ _ h => h) (Or.inl ⟨by rfl, ?_⟩) ?_ ?_
      rotate_left
      · intro w'
        go_simp
        with_reducible rfl
      rotate_left
      · simp only [Act.put, List.setIfInBounds_toArray, List.set_cons_zero, List.set_cons_succ, i64_w, i32_w]
        rfl
      refine last_ (i := 14) (N := none) #[true, true, true, true, true, true, true, true, true, true, true, true, true, true, true] rfl rfl (by kernel_rfl) (by decide) (fun K hK => ?_)
      refine skip_ (w1 := ?_) (by rfl) rfl ?_ ?_
      rotate_left
      · go_simp
        rfl
      refine hK.out _ _ ?_
      clear hK K
      refine done_ (by kernel_rfl) ?_
      dsimp only [only]
      have hblo := HDw.out.flow _ HF.out
      dsimp only at hblo
      have HF3 := Lib.hid (set_file (show (W.drewN (N2 + 1)).heap[x.1.2.1]? = some (.cells (fcells f) 143) by rw [World.heap_drewN]; exact hfile) S2)
      have HQ3 := Lib.hid (wrt_set (wrt_drewN base x.1.2.1 W (N2 + 1)) hblo 1 (.int .i64 (S2 : Int)))
      generalize (W.drewN (N2 + 1)).setCell ⟨x.1.2.1, 1, none⟩ (.int .i64 (S2 : Int)) = W3 at *
      have z0 := blk_frozen HF3.out 0
      have d0 := cells_of HF3.out (j := 0) (v := .string (bs f.b)) rfl
      have d1 := cells_of HF3.out (j := 1) (v := .int .i64 S2) rfl
      have hex : (bs f.b).extract 0 S2 = bs (f.b.take S2) := bs_take f.b S2
      clear hT hT2 hT3 hT4 hM0
      gi_wp2
      refine start_in (n0 := 13) (S := (fun w' => w'.cell? ⟨x.1.2.1, 0, none⟩ = some (.string (bs f.b)) ∧ w'.cell? ⟨x.1.2.1, 1, none⟩ = some (.int .i64 S2))) (ds := [12]) #[false, false, false, false, false, false, false, false, false, false, false, false, false] hmix (by kernel_rfl) rfl rfl ⟨(show W3.drew.cell? ⟨x.1.2.1, 0, none⟩ = _ from d0), (show W3.drew.cell? ⟨x.1.2.1, 1, none⟩ = _ from d1)⟩ (fun hHeld => ?_)
      refine pure_ (i := 0) (N := some 48) (v := ?_) (a' := ?_) #[true, false, false, false, false, false, false, false, false, false, false, false, false] rfl rfl (by kernel_rfl) (fun _ _ _ h => h) (Or.inl ⟨by rfl, ?_⟩) ?_ ?_
      rotate_left
      · intro w'
        go_simp
        with_reducible rfl
      rotate_left
      · simp only [Act.put, List.setIfInBounds_toArray, List.set_cons_zero, List.set_cons_succ, i64_w, i32_w]
        rfl
      refine pure_ (i := 1) (N := some 49) (v := ?_) (a' := ?_) #[true, true, false, false, false, false, false, false, false, false, false, false, false] rfl rfl (by kernel_rfl) (fun _ _ _ h => h) (Or.inl ⟨by rfl, ?_⟩) ?_ ?_
      rotate_left
      · intro w'
        go_simp
        with_reducible rfl
      rotate_left
      · simp only [Act.put, List.setIfInBounds_toArray, List.set_cons_zero, List.set_cons_succ, i64_w, i32_w]
        rfl
      refine pure_ (i := 2) (N := some 50) (v := ?_) (a' := ?_) #[true, true, true, false, false, false, false, false, false, false, false, false, false] rfl rfl (by kernel_rfl) (fun _ _ _ h => h) (Or.inl ⟨by rfl, ?_⟩) ?_ ?_
      rotate_left
      · intro w'
        go_simp
        with_reducible rfl
      rotate_left
      · simp only [Act.put, List.setIfInBounds_toArray, List.set_cons_zero, List.set_cons_succ, i64_w, i32_w]
        rfl
      refine pure_ (i := 3) (N := some 51) (v := ?_) (a' := ?_) #[true, true, true, true, false, false, false, false, false, false, false, false, false] rfl rfl (by kernel_rfl) (fun _ _ _ h => h) (Or.inl ⟨by rfl, ?_⟩) ?_ ?_
      rotate_left
      · intro w'
        go_simp
        with_reducible rfl
      rotate_left
      · simp only [Act.put, List.setIfInBounds_toArray, List.set_cons_zero, List.set_cons_succ, i64_w, i32_w]
        rfl
      refine take_ (i := 4) (N := some 52) (v := ?_) (a' := ?_) #[true, true, true, true, true, false, false, false, false, false, false, false, false] rfl rfl (by kernel_rfl) (fun _ _ _ h => h) (Or.inl ⟨by rfl, ?_⟩) hHeld ?_ ?_
      rotate_left
      · rintro w' ⟨hS0, hS1⟩
        go_simp
        with_reducible rfl
      rotate_left
      · simp only [Act.put, List.setIfInBounds_toArray, List.set_cons_zero, List.set_cons_succ, i64_w, i32_w]
        rfl
      refine pure_ (i := 5) (N := some 53) (v := ?_) (a' := ?_) #[true, true, true, true, true, true, false, false, false, false, false, false, false] rfl rfl (by kernel_rfl) (fun _ _ _ h => h) (Or.inl ⟨by rfl, ?_⟩) ?_ ?_
      rotate_left
      · intro w'
        go_simp
        with_reducible rfl
      rotate_left
      · simp only [Act.put, List.setIfInBounds_toArray, List.set_cons_zero, List.set_cons_succ, i64_w, i32_w]
        rfl
      refine pure_ (i := 6) (N := some 54) (v := ?_) (a' := ?_) #[true, true, true, true, true, true, true, false, false, false, false, false, false] rfl rfl (by kernel_rfl) (fun _ _ _ h => h) (Or.inl ⟨by rfl, ?_⟩) ?_ ?_
      rotate_left
      · intro w'
        go_simp
        with_reducible rfl
      rotate_left
      · simp only [Act.put, List.setIfInBounds_toArray, List.set_cons_zero, List.set_cons_succ, i64_w, i32_w]
        rfl
      refine pure_ (i := 7) (N := some 55) (v := ?_) (a' := ?_) #[true, true, true, true, true, true, true, true, false, false, false, false, false] rfl rfl (by kernel_rfl) (fun _ _ _ h => h) (Or.inl ⟨by rfl, ?_⟩) ?_ ?_
      rotate_left
      · intro w'
        go_simp
        with_reducible rfl
      rotate_left
      · simp only [Act.put, List.setIfInBounds_toArray, List.set_cons_zero, List.set_cons_succ, i64_w, i32_w]
        rfl
      refine take_ (i := 8) (N := some 56) (v := ?_) (a' := ?_) #[true, true, true, true, true, true, true, true, true, false, false, false, false] rfl rfl (by kernel_rfl) (fun _ _ _ h => h) (Or.inl ⟨by rfl, ?_⟩) hHeld ?_ ?_
      rotate_left
      · rintro w' ⟨hS0, hS1⟩
        go_simp
        with_reducible rfl
      rotate_left
      · simp only [Act.put, List.setIfInBounds_toArray, List.set_cons_zero, List.set_cons_succ, i64_w, i32_w]
        rfl
      refine pure_ (i := 9) (N := some 57) (v := ?_) (a' := ?_) #[true, true, true, true, true, true, true, true, true, true, false, false, false] rfl rfl (by kernel_rfl) (fun _ _ _ h => h) (Or.inl ⟨by rfl, ?_⟩) ?_ ?_
      rotate_left
      · intro w'
        go_simp
        with_reducible rfl
      rotate_left
      · simp only [Act.put, List.setIfInBounds_toArray, List.set_cons_zero, List.set_cons_succ, i64_w, i32_w]
        rfl
      refine pure_ (i := 10) (N := some 58) (v := ?_) (a' := ?_) #[true, true, true, true, true, true, true, true, true, true, true, false, false] rfl rfl (by kernel_rfl) (fun _ _ _ h => h) (Or.inl ⟨by rfl, ?_⟩) ?_ ?_
      rotate_left
      · intro w'
        go_simp
        with_reducible rfl
      rotate_left
      · simp only [Act.put, List.setIfInBounds_toArray, List.set_cons_zero, List.set_cons_succ, i64_w, i32_w]
        rfl
      refine pure_ (i := 11) (N := some 59) (v := ?_) (a' := ?_) #[true, true, true, true, true, true, true, true, true, true, true, true, false] rfl rfl (by kernel_rfl) (fun _ _ _ h => h) (Or.inl ⟨by rfl, ?_⟩) ?_ ?_
      rotate_left
      · intro w'
        go_simp
        with_reducible rfl
      rotate_left
      · simp only [Act.put, List.setIfInBounds_toArray, List.set_cons_zero, List.set_cons_succ, i64_w, i32_w]
        rfl
      refine last_ (i := 12) (N := none) #[true, true, true, true, true, true, true, true, true, true, true, true, true] rfl rfl (by kernel_rfl) (by decide) (fun K hK => ?_)
      refine skip_ (w1 := ?_) (by rfl) rfl ?_ ?_
      rotate_left
      · go_simp
        rfl
      refine hK.out _ _ ?_
      clear hK K
      refine done_ (by kernel_rfl) ?_
      dsimp only [only]
      have HF4 := Lib.hid (show (W3.setCell ⟨x.1.2.1, 0, none⟩ (.string (bs (f.b.take S2)))).drew.heap[x.1.2.1]? = some (.cells (fcells ⟨f.b.take S2, S2⟩) 143) from set_file0 HF3.out (f.b.take S2))
      have HQ4 := Lib.hid (wrt_drew (wrt_set HQ3.out hblo 0 (.string (bs (f.b.take S2)))))
      generalize (W3.setCell ⟨x.1.2.1, 0, none⟩ (.string (bs (f.b.take S2)))).drew = W4 at *
      have hxb := hfl x.1 x.2
      have hb4 : Boxed W4 (w.heap.size + 1) 3 (.int .i64 (pre.length : Int)) := (HQ4.out.other _ (by omega)).trans hbi2
      have hk4 : Boxed W4 w.heap.size 48 _ := (HQ4.out.other _ (by omega)).trans hbk2
      have hci4 := hb4.cell
      have hfz4 := hb4.frozen
      clear HF3 HQ3 hex z0 d0 d1 z1 c0 c1 hci hck
      gi_wp2
      have hcut : f.b.take S2 = (cut keep pre.length f).b ∧ S2 = (cut keep pre.length f).s := by rw [HC.out]; exact ⟨rfl, rfl⟩
      have hgf := get_of_mem HDw.out.sorted HF.out
      have HT := Lib.hid (HDw.out.turn hgf (cut keep pre.length) (w' := W4) (by dsimp only; rw [HC.out]; exact HF4.out) (fun k hk => HQ4.out.other k hk) (ok_cut HDw.out.ok (by have := fs_get (crF keep pre).2 x.1.1; rw [hgf] at this; exact this) keep pre.length))
      refine ⟨⟨by have := HQ4.out.size; simp [World.setCell]; omega, fun k o _ hk ho => ?_⟩, ⟨by have := HQ4.out.size; simp [World.setCell]; omega, fun k o hk ho hn => ?_, fun k h => Or.inl h⟩, ⟨?_, ?_, ?_, ?_⟩, ?_⟩
      · have h1 : k ≠ w.heap.size + 1 := fun e => by rw [e] at hk; rw [show W.heap[w.heap.size + 1]? = _ from hbi2] at hk; cases hk; cases ho
        have h2 : k ≠ x.1.2.1 := fun e => by rw [e, hfile] at hk; cases hk; cases ho
        rw [RowKit.Below.heap_setCell _ _ _ _ h1, HQ4.out.other k h2]
        exact hk
      · rw [RowKit.Below.heap_setCell _ _ _ _ (fun e => hn (Or.inl e)), HQ4.out.other k (fun e => hn (Or.inr ⟨x.1, x.2, e⟩))]
        exact hk
      · exact (RowKit.Below.heap_setCell _ _ _ _ (by dsimp only; omega)).trans hk4
      · have := Boxed.set (.int .i64 ((pre.length : Int) + 1)) hb4
        simpa using this
      · rw [crF_snoc, crF_len]
        refine HT.out.same (fun k o hk hk2 => ?_)
        refine (RowKit.Below.heap_setCell _ _ _ _ ?_).trans hk
        dsimp only
        rcases hk2 with rfl | rfl | ⟨p, hp, rfl⟩
        · omega
        · omega
        · have hpm : (p.1, p.2.1) ∈ L.map (fun r => (r.1, r.2.1)) := by
            rw [← crF_blocks keep (pre ++ [x]), crF_snoc, crF_len]
            exact List.mem_map_of_mem (f := fun r : Tx × (Nat × Fl) => (r.1, r.2.1)) hp
          obtain ⟨r, hr, e⟩ := List.mem_map.1 hpm
          have h3 := (hfl r hr).1
          have h4 : r.2.1 = p.2.1 := (Prod.mk.inj e).2
          omega
      · intro k o hk hn
        have h3 := heap_lt hk
        rw [RowKit.Below.heap_setCell _ _ _ _ (by dsimp only; omega), HQ4.out.other k (hn x.1 x.2)]
        exact HFr.out k o hk hn
      · exact (HB.out.trans HQ4.out.below).setCell (p := ⟨w.heap.size + 1, 0, none⟩) (by dsimp only; omega) _
  case done =>
    rintro D ys W hD' hS ⟨⟨hbk2, hbi2, hDw, hFr⟩, hB⟩ hK
    have hall := Lib.hid (crF_all keep HDb.out.ok.sorted ys hS)
    have HDw := Lib.hid hDw
    have HB := Lib.hid hB
    have hD3 : w.heap.size ≤ D := by omega
    have HFr := Lib.hid hFr
    clear hB hDw hFr
    gi_wp2
    refine ⟨by simp, .inl ⟨_, _, rfl, run_takeDeferred hK, ?_⟩⟩
    refine ⟨_, results_none rfl _ _ _, ⟨_, rfl⟩, HB.out.trans (belowK_b (w := w) hbl W D _ _ hD3 hK rfl rfl), (crF keep ys).2, hall.out, ?_, ⟨fun k hk hm hn => ?_, ?_, fun r hr => ?_⟩⟩
    · refine HDw.out.same (fun k o hk hk2 => ?_)
      refine (World.putObj_heap_other (fun e => ?_)).trans hk
      subst e
      rw [hk] at hK
      cases hK
      rcases hk2 with rfl | rfl | ⟨p, hp, rfl⟩
      · rw [HDw.out.top] at hk; cases hk
      · omega
      · rw [HDw.out.file p hp] at hk; cases hk
    · obtain ⟨o, ho⟩ : ∃ o, w.heap[k]? = some o := ⟨_, Array.getElem?_eq_getElem hk⟩
      rw [World.putObj_heap_other (by omega), HFr.out k o ho hn, ho]
    · have := HB.out.size
      rw [World.putObj_size]
      exact this
    · have hpm : (r.1, r.2.1) ∈ L.map (fun r => (r.1, r.2.1)) := by
        rw [← crF_blocks keep ys]
        exact List.mem_map_of_mem (f := fun r : Tx × (Nat × Fl) => (r.1, r.2.1)) hr
      obtain ⟨p, hp, e⟩ := List.mem_map.1 hpm
      exact Or.inl ⟨p, hp, (Prod.mk.inj e).2.symm⟩
  case stop =>
    rintro D c pre W _ _ h _
    exact h.elim
end Go.Proofs.YtbffgpfkgmhmhaaGreatDoor.Dw
