/- What the row's premise on the table says of memory; a start in which it holds. -/
import Derived.Test.YtnhjhaphfdlkfaaDoorRows
import Derived.Test.YtnhjhaphfdlkfaaDoorQCrc
import Derived.WalkKit
import Derived.ProofKit
import Derived.OpenShut
import Derived.ChangeOld
import Derived.Below
import Derived.SizedLaws
import Derived.Handed
import Derived.LaidByTextLater
set_option linter.unusedVariables false
namespace Go.Proofs.YtnhjhaphfdlkfaaDoor.LaidAt
open Go.ChangeShapes Go.WideShapes Go.ChangeAt Go.RowKit
theorem own : ownKnob Tryd.prog.godebug = none := by kernel_rfl
theorem named : Tryd.prog.globalNamed "hindcast/crc.steps" = some 0 := by kernel_rfl
theorem typed : (Tryd.prog.globals[0]?).map (·.type) = some 159 := by kernel_rfl
theorem under159 : Tryd.prog.underlying 159 = some (.array 16 120) := by kernel_rfl
theorem cells159 : Tryd.prog.cellsOf 159 = 16 := by kernel_rfl
theorem cells120 : Tryd.prog.cellsOf 120 = 1 := by kernel_rfl
theorem int_of_trod {H : Type} {enc : TypeId × Value → H} {P : Program} {w : World} {base : Nat} {sp : Nat → Bool} {held : Bool} {fuel : Nat} {t : TypeId} {k : IntKind} {c : Value} {y : DataW H × List MemPlace}
    (ht : P.underlying t = some (.int k)) (h : DataW.trod enc P w base sp held fuel t [c] = some y) : ∃ n, c = .int k n ∧ y = (.lit (.int k n), []) := by
  cases fuel with
  | zero => simp [DataW.trod] at h
  | succ fuel =>
    cases c <;> simp [DataW.trod, ht] at h
    rename_i k' n
    obtain ⟨⟨rfl, _⟩, rfl⟩ := h
    exact ⟨n, rfl, rfl⟩
theorem data_is {H : Type} : (Rows.laid_hindcast_crc_steps : DataW H) = .agg (Crc.tabL.map fun n => .lit (.int .u32 n)) := rfl
theorem laid_of {W : World} (h : laidMet Tryd.prog [("hindcast/crc.steps", Rows.laid_hindcast_crc_steps)] W) : Crc.Laid W := by
  obtain ⟨ps, ⟨g, t, cs, fuel, p, q, hg, ht, hvar, hd, _, _⟩, _⟩ := h
  obtain rfl := Option.some.inj (named.symm.trans hg)
  obtain rfl := Option.some.inj (typed.symm.trans ht)
  obtain ⟨xs, m, rfl, hx, hl, hn, hi⟩ := DataW.trod_array under159 hd
  rw [data_is] at hx
  simp only [Prod.mk.injEq, DataW.agg.injEq] at hx
  obtain ⟨hx, _⟩ := hx
  rw [cells159] at hl
  intro i h16
  have h1 := hi i h16
  rw [cells120, Nat.mul_one] at h1
  have hlt : i < cs.toList.length := by omega
  have ht1 : (cs.toList.drop i).take 1 = [cs.toList[i]] := by
    rw [List.drop_eq_getElem_cons hlt]; rfl
  rw [ht1] at h1
  have hxi : xs[i]? = some (xs[i]'(by omega)) := List.getElem?_eq_getElem (by omega)
  rw [hxi] at h1
  obtain ⟨n, hc, hy⟩ := int_of_trod (k := .u32) Tryd.underlying120 h1
  have e : ((Crc.tabL.map fun n => (DataW.lit (.int .u32 n) : DataW Unit)))[i]? = (xs.map (·.1))[i]? := by rw [hx]
  rw [List.getElem?_map, List.getElem?_map, hxi, hy] at e
  have htl : i < Crc.tabL.length := h16
  rw [List.getElem?_eq_getElem htl] at e
  simp at e
  have hv := World.var?_cell named hvar i
  rw [hv, ← Array.getElem?_toList, List.getElem?_eq_getElem hlt, hc, ← e, List.getD_eq_getElem?_getD, List.getElem?_eq_getElem htl]
  rfl
def tabCells : Array Value := (Crc.tabL.map fun n => Value.int .u32 n).toArray
/-- A start in which the table lies as the program's text has it. -/
noncomputable def laidWorld (os : Os) : World :=
  { World.holding Tryd.prog os ⟨#[], #[], []⟩ with heap := (World.holding Tryd.prog os ⟨#[], #[], []⟩).heap.modify 0 fun
      | .cells _ t frozen => .cells tabCells t frozen
      | o => o }
def XL : World → Array Value → Prop := fun w _ => laidMet Tryd.prog [("hindcast/crc.steps", Rows.laid_hindcast_crc_steps)] w
theorem XL_heap (w w' : World) (args : Array Value) (hh : w.heap = w'.heap) (h : XL w args) : XL w' args := laidMet.of_heap hh h
theorem row0 (os : Os) (args : Array Value) : ((laidWorld os).forCall (fun _ _ => 0) ⟨#[], args, []⟩).memory.heap[0]? = some (.cells tabCells 159 (0, 0)) := by kernel_rfl
set_option maxRecDepth 100000 in
theorem met (os : Os) (args : Array Value) : laidMet Tryd.prog [("hindcast/crc.steps", Rows.laid_hindcast_crc_steps)] ((laidWorld os).forCall (fun _ _ => 0) ⟨#[], args, []⟩).memory := by
  refine ⟨_, ⟨0, 159, tabCells, 8, [], [], by kernel_rfl, by kernel_rfl, by kernel_rfl, by kernel_rfl, rfl, rfl⟩, by decide, fun b off h => ?_⟩
  have h' : MemPlace.cell b off ∈ [MemPlace.cell 0 0, .cell 0 1, .cell 0 2, .cell 0 3, .cell 0 4, .cell 0 5, .cell 0 6, .cell 0 7, .cell 0 8, .cell 0 9, .cell 0 10, .cell 0 11, .cell 0 12, .cell 0 13, .cell 0 14, .cell 0 15] := h
  have hb : b = 0 := by
    simp at h'
    omega
  subst hb
  refine ⟨⟨_, _, row0 os args⟩, fun u v hc => ?_⟩
  simp only [World.cell?, row0 os args] at hc
  simp at h'
  rcases h' with rfl | rfl | rfl | rfl | rfl | rfl | rfl | rfl | rfl | rfl | rfl | rfl | rfl | rfl | rfl | rfl <;> simp [tabCells, Crc.tabL] at hc
end Go.Proofs.YtnhjhaphfdlkfaaDoor.LaidAt
