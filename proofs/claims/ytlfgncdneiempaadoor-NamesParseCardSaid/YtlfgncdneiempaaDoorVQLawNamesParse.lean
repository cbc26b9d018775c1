/- What any text names is as the document says: of any text. Conditions: the package-level variables are as the program's text lays them (tied on the card). -/
import Derived.Test.YtlfgncdneiempaaDoorVMb
import Derived.Test.YtlfgncdneiempaaDoorTie
import Derived.Test.YtlfgncdneiempaaDoorCards
import Derived.SevenTiedAt
import Derived.WalkKit
import Derived.ProofKit
import Derived.OpenShut
import Derived.ShutString
import Derived.ChangeOld
import Derived.Below
import Derived.SizedLaws
import Derived.Handed
import Derived.LaidMore
import Derived.Stop.Joined
set_option linter.unusedVariables false
namespace Go.Proofs.YtlfgncdneiempaaDoor.namesParse
open Go.ChangeShapes Go.WideShapes Go.ChangeAt Go.RowKit Go.Proofs.YtlfgncdneiempaaDoor.Nw
theorem own : ownKnob Tryd.prog.godebug = none := by kernel_rfl
theorem laidOut : laidOutB Tryd.prog = true := by kernel_rfl
theorem named : Tryd.prog.globalNamed "math/bits.deBruijn64tab" = some 7 := by kernel_rfl
theorem typed : (Tryd.prog.globals[7]?).map (·.type) = some 109 := by kernel_rfl
theorem under109 : Tryd.prog.underlying 109 = some (.array 64 5) := by kernel_rfl
theorem cells109 : Tryd.prog.cellsOf 109 = 64 := by kernel_rfl
theorem cells5 : Tryd.prog.cellsOf 5 = 1 := by kernel_rfl
theorem int_of_trod {H : Type} {enc : TypeId × Value → H} {P : Program} {w : World} {base : Nat} {sp : Nat → Bool} {held : Bool} {fuel : Nat} {t : TypeId} {k : IntKind} {c : Value} {y : DataW H × List MemPlace}
    (ht : P.underlying t = some (.int k)) (h : DataW.trod enc P w base sp held fuel t [c] = some y) : ∃ n, c = .int k n ∧ y = (.lit (.int k n), []) := by
  cases fuel with
  | zero => simp [DataW.trod] at h
  | succ fuel =>
    cases c <;> simp [DataW.trod, ht] at h
    rename_i k' n
    obtain ⟨⟨rfl, _⟩, rfl⟩ := h
    exact ⟨n, rfl, rfl⟩
theorem lit_inj {a n : Int} (h : some (DataW.lit (.int .u8 a) : DataW Unit) = some (.lit (.int .u8 n))) : n = a := by cases h; rfl
set_option maxRecDepth 100000 in
/-- What the premise says of the table's place of 16. -/
theorem laid_of {W : World} (h : laidMet Tryd.prog Rows.namesParseRow.laid W) : TZ W := by
  obtain ⟨ps, ⟨g0, t0, cs0, f0, p0, q0, hg0, ht0, hv0, hd0, ⟨g, t, cs, fuel, p, q, hg, ht, hvar, hd, _, _⟩, _⟩, _⟩ := h
  obtain rfl := Option.some.inj (named.symm.trans hg)
  obtain rfl := Option.some.inj (typed.symm.trans ht)
  obtain ⟨xs, m, rfl, hx, hl, hn, hi⟩ := DataW.trod_array under109 hd
  simp only [Prod.mk.injEq] at hx
  obtain ⟨hx, _⟩ := hx
  rw [cells109] at hl
  have h1 := hi 15 (by decide)
  rw [cells5, Nat.mul_one] at h1
  have hlt : 15 < cs.toList.length := by omega
  have ht1 : (cs.toList.drop 15).take 1 = [cs.toList[15]] := by
    rw [List.drop_eq_getElem_cons hlt]; rfl
  rw [ht1] at h1
  have hxi : xs[15]? = some (xs[15]'(by omega)) := List.getElem?_eq_getElem (by omega)
  rw [hxi] at h1
  obtain ⟨n, hc, hy⟩ := int_of_trod (k := .u8) Tryd.underlying5 h1
  have e : (match (Rows.laid_math_bits_deBruijn64tab : DataW Unit) with | .agg l => l[15]? | _ => none) = (xs.map (·.1))[15]? := by rw [hx]
  rw [List.getElem?_map, hxi, hy] at e
  have e2 : some (DataW.lit (.int .u8 4) : DataW Unit) = some (.lit (.int .u8 n)) := e
  have hn4 : n = 4 := lit_inj e2
  have hv := World.var?_cell named hvar 15
  unfold TZ
  rw [hv, ← Array.getElem?_toList, List.getElem?_eq_getElem hlt, hc, hn4]
def firstCells : Array Value := match Go.Pinned.utf8First with
  | .agg l => (l.map fun | .lit (.int k n) => Value.int k n | _ => undef).toArray
  | _ => #[]
/-- A start in which all of them lie as the program's text has them. -/
noncomputable def start (os : Os) : World :=
  { World.doorLaid Tryd.prog 72 os with heap := (World.doorLaid Tryd.prog 72 os).heap.modify 3 fun
      | .cells _ t frozen => .cells firstCells t frozen
      | o => o }
theorem met (os : Os) (args : Array Value) : laidMet Tryd.prog Rows.namesParseRow.laid ((start os).forCall (fun _ _ => 0) ⟨#[], args, []⟩).memory :=
  laidMet_of_run' 8 (by kernel_rfl) (by kernel_rfl)
def XL : World → Array Value → Prop := fun w _ => laidMet Tryd.prog Rows.namesParseRow.laid w
theorem XL_heap (w w' : World) (args : Array Value) (hh : w.heap = w'.heap) (h : XL w args) : XL w' args := laidMet.of_heap hh h
set_option maxRecDepth 100000 in
theorem lifted (os : Os) (started : os.Started) (H : Type) (enc : TypeId × Value → H) :
    ReturnsInHanded {} Tryd.checked os 3 .any (fun w args => (Rows.namesParseSpec.pre enc Tryd.prog Tryd.f3 Rows.namesParseRow.domain false w args ∧ laidMet Tryd.prog Rows.namesParseRow.laid w) ∧ sizedMet enc Tryd.prog Tryd.f3 (OpenSpec.ofChange Rows.namesParseSpec) false w args)
      (Rows.namesParseSpec.post enc Tryd.prog Tryd.f3 false true false false) := by
  refine returnsInHanded_of_change_and (C := Tryd.checked) (X := XL) XL_heap own started (by kernel_rfl) Tryd.func3
    (ChangeSpec.witness_shaped (enc := enc) (C := Tryd.checked) (os := os) (X := XL) false (start os) #[.string ⟨#[]⟩] 8 rfl (World.shaped_of_RefB (by kernel_rfl) (by kernel_rfl)) (by kernel_rfl) (by kernel_rfl) (by kernel_rfl) (met os _)) ?_
  intro W base args ds gs before hval0 hW hcnd hsz0 hL _
  have hval : ∀ (j : Nat) t v, Tryd.f3.params[j]? = some t → args[j]? = some v → Value.okWide Tryd.prog W .any base t v := hval0
  have hW' := hW
  obtain ⟨p, q, hA0, hV, rfl, hfz, hnd⟩ := hW
  have hA : DataW.TrodAll enc Tryd.prog W 0 (fun _ => true) true Tryd.f3.params.toList args.toList ds p := hA0
  rw [Tryd.params3] at hA hval
  obtain ⟨v0, vs0, d0, ds0, p0, q0, hargs, rfl, rfl, h0, r0⟩ := trodAll_cons hA
  obtain ⟨rfl, rfl, rfl⟩ := trodAll_nil r0
  obtain rfl : args = #[v0] := by cases args; simp_all
  obtain ⟨rfl, rfl⟩ := trodVars_none hV
  obtain ⟨s, rfl, rfl, rfl, y2⟩ := Go.ChangeMaps.open_string Tryd.underlying9 (hval 0 9 v0 rfl rfl) h0
  clear hA0 hval0 hsz0
  refine (namesParse_calls W (laid_of hL) s).mono fun e W' ⟨he, bel⟩ => ?_
  subst he
  exact ⟨_, rfl, _, _, _, [], _, [], hW', trodAll_mk1 (shut_bool Tryd.underlying4 _), (trodAll_cons_mk (Go.ChangeMaps.shut_string Tryd.underlying9 y2) trodAll_mk0), rfl, bel.frame _, fun h => by cases h⟩
theorem over : Rows.namesParseRow.holds Tryd.pinned (OpenSpec.ofChange Rows.namesParseSpec) :=
  OpenClaim.holds_of_wide 3 Tryd.f3 rfl rfl rfl rfl rfl rfl rfl ⟨rfl, rfl, rfl, rfl, rfl⟩ rfl rfl rfl rfl rfl (by kernel_rfl) Tryd.func3 (by kernel_rfl)
    (of_decide_eq_true (by kernel_rfl)) (by unfold Func.isWrapper; first | (rw [if_pos (by decide +kernel)]; kernel_rfl) | (rw [if_neg (by decide +kernel)]; exact ⟨rfl, rfl⟩))
    (fun os started H enc _ => lifted os started H enc)
theorem card : Rows.NamesParseCardSaid :=
  Claim7.holds_tied_plain_at .later [] [.data, .data, .data, .data, .sentinel, .sentinel, .pinned] true (true, "24720737fc8c6ac223abcdc89f64a72dcae6d0e78cb00e981d02d469ad0a83a6") true
    over (fun _ h => by cases h) (by kernel_rfl) (fun _ h => by cases h) namesParse_row_tie rfl ⟨rfl, rfl⟩ (by kernel_rfl) rfl
    (fun f fn hf hfn => by
      obtain rfl : f = 3 := Option.some.inj ((show Tryd.prog.funcNamed "hindcast/hindcastlaw14.NamesParse" = some 3 by kernel_rfl).symm.trans hf) |>.symm
      obtain rfl : fn = Tryd.f3 := (Option.some.inj (Tryd.func3.symm.trans hfn)).symm
      exact ⟨by kernel_rfl, fun j t ht => by
        rw [Tryd.params3] at ht
        have h3 : t = 9 := by
          rcases j with _ | j
          · simpa using ht.symm
          · simp at ht
        subst h3
        exact (show Tryd.prog.wantsStandIn 9 = false by kernel_rfl)⟩)
    (by kernel_rfl)
#print axioms card
end Go.Proofs.YtlfgncdneiempaaDoor.namesParse
namespace Go.Proofs.YtlfgncdneiempaaDoor
/-- The card, under a short name, for the claim. -/
theorem namesParse_card_holds : Rows.NamesParseCardSaid := namesParse.card
end Go.Proofs.YtlfgncdneiempaaDoor
