/- A disk behind a fuse ends as one without a fuse, on which just the writes ahead of the fuse's were done (and that one, if the first number to keep is odd), and which crashed then: of any acts, any fuse, any numbers to keep. No condition. -/
import Derived.Test.YtbffgpfkgmhmhaaGreatRows
import Derived.Test.YtbffgpfkgmhmhaaGreatVMc
import Derived.Deep.SlicePairs
import Derived.Lib.SmallJoins
import Derived.ShutString
import Derived.WalkKit
import Derived.ProofKit
import Derived.OpenShut
import Derived.ChangeOld
import Derived.Below
import Derived.SizedLaws
namespace Go.Proofs.YtbffgpfkgmhmhaaGreat.powerCuts
open Go.ChangeShapes Go.WideShapes Go.ChangeAt Go.RowKit Go.Proofs.YtbffgpfkgmhmhaaGreat.Dw Go.Proofs.Dk Go.Proofs.YtbffgpfkgmhmhaaGreat.PPowerCuts Go.Proofs.YtbffgpfkgmhmhaaGreatW.PrintWords
set_option linter.unusedVariables false
section
variable {H : Type} {enc : TypeId × Value → H} {w : World} {base : Nat} {sp : Nat → Bool} {held : Bool}
theorem u8_of_trod {fuel : Nat} {c : Value} {y : DataW H × List MemPlace} (h : DataW.trod enc Tryz.prog w base sp held fuel 5 [c] = some y) : ∃ n, c = .int .u8 n ∧ 0 ≤ n ∧ n < 256 := by
  cases fuel with
  | zero => simp [DataW.trod] at h
  | succ fuel =>
    cases c <;> simp [DataW.trod, Tryz.underlying5] at h
    rename_i k' n
    obtain ⟨⟨rfl, hw⟩, rfl⟩ := h
    refine ⟨n, rfl, ?_⟩
    simp [Lit.wf, IntKind.min, IntKind.max, IntKind.signed, IntKind.bits] at hw
    omega
theorem str_of_trod {fuel : Nat} {c : Value} {y : DataW H × List MemPlace} (h : DataW.trod enc Tryz.prog w base sp held fuel 9 [c] = some y) : ∃ s, c = .string s := by
  cases fuel with
  | zero => simp [DataW.trod] at h
  | succ fuel =>
    cases c <;> simp [DataW.trod, Tryz.underlying9] at h
    exact ⟨_, rfl⟩
theorem open_i64s {fuel : Nat} {c : Value} {x : DataW H × List MemPlace} (h : DataW.trod enc Tryz.prog w base sp held fuel 22 [c] = some x) :
    ∃ (A : Option Addr) (cap : Nat) (l : List Int), c = .slice A l.length cap ∧ l.length ≤ cap ∧ (Kd.int .i64).C w A l.length l ∧ (A = none → l = []) := by
  rcases open_ints Tryz.underlying22 Tryz.underlying3 (by kernel_rfl) h with ⟨hc, _⟩ | ⟨a, len, cap, zs, hc, _, hl, hm, hz, _, hcell, hwz⟩
  · simp at hc
    subst hc
    exact ⟨none, 0, [], rfl, Nat.le_refl _, ⟨rfl, by decide, fun h => by simp at h⟩, fun _ => rfl⟩
  · simp at hc
    subst hc
    have hlz : len ≤ zs.length := by rw [hz]; split <;> omega
    have hlen : (zs.take len).length = len := by rw [List.length_take]; omega
    refine ⟨some a, cap, zs.take len, by rw [hlen], by rw [hlen]; exact hl, ⟨rfl, by rw [hlen]; unfold maxLen at hm; omega, fun _ => ⟨a, rfl, fun j p hj => ?_⟩⟩, fun h => by cases h⟩
    have hjl : j < len := by
      have := (List.getElem?_eq_some_iff.1 hj).1
      omega
    have hc := hcell j (by omega)
    have hp : zs.getD j 0 = p := by
      rw [List.getElem?_take, if_pos hjl] at hj
      rw [List.getD_eq_getElem?_getD, hj]; rfl
    rw [hp] at hc
    refine ⟨[.int .i64 p], rfl, rfl, fun i u hu => ?_⟩
    have hi : i = 0 := by
      have := (List.getElem?_eq_some_iff.1 hu).1
      simpa using this
    subst hi
    simp at hu
    subst hu
    rw [show j * (Kd.int .i64).sz + 0 = j from by show j * 1 + 0 = j; omega]
    exact hc
def okAct (x : S28) : Prop := 0 ≤ x.f0 ∧ x.f0 < 256
set_option maxRecDepth 100000 in
theorem open_act {fuel : Nat} {cs : List Value} {x : DataW H × List MemPlace} (hl : cs.length = 3) (h : DataW.trod enc Tryz.prog w base sp held fuel 28 cs = some x) :
    ∃ (q : S28), cs = [.int .u8 q.f0, .string q.f1, .string q.f2] ∧ okAct q := by
  obtain ⟨xs, k, hk, hxy, _, hxl, hf⟩ := DataW.trod_struct Tryz.underlying28 h
  match xs, hxl, cs, hl with
  | [y0, y1, y2], _, [v0, v1, v2], _ =>
    have g0 := hf 0 _ rfl
    have g1 := hf 1 _ rfl
    have g2 := hf 2 _ rfl
    have c5 : Tryz.prog.cellsOf 5 = 1 := by kernel_rfl
    have c9 : Tryz.prog.cellsOf 9 = 1 := by kernel_rfl
    simp [c5] at g0
    simp [c9] at g1
    simp [c9] at g2
    obtain ⟨n0, rfl, a0, b0⟩ := u8_of_trod g0
    obtain ⟨s1, rfl⟩ := str_of_trod g1
    obtain ⟨s2, rfl⟩ := str_of_trod g2
    exact ⟨⟨n0, s1, s2⟩, rfl, a0, b0⟩
theorem open_acts {fuel : Nat} {c : Value} {x : DataW H × List MemPlace} (h : DataW.trod enc Tryz.prog w base sp held fuel 23 [c] = some x) :
    ∃ (A : Option Addr) (cap : Nat) (l : List S28), c = .slice A l.length cap ∧ l.length ≤ cap ∧ Kd.C k28 w A l.length l ∧ ∀ x ∈ l, okAct x := by
  rcases Go.Deep.open_slice Tryz.underlying23 h with ⟨hc, _⟩ | ⟨a, len, cap, m, n, D, Pl, hc, _, hl, hm, hmm, _, hx⟩
  · simp at hc
    subst hc
    exact ⟨none, 0, [], rfl, Nat.le_refl _, ⟨rfl, by decide, fun h => by simp at h⟩, fun x hx => by simp at hx⟩
  · simp at hc
    subst hc
    have ce : Tryz.prog.cellsOf 28 = 3 := by kernel_rfl
    have hlm : len ≤ m := by rw [hmm]; split <;> omega
    have each : ∀ i, i < len → ∃ q : S28, (∃ cs, cs.length = 3 ∧ k28.K w q cs ∧ ∀ j u, cs[j]? = some u → w.cell? (a.add (i * 3 + j)) = some u) ∧ okAct q := by
      intro i hi
      obtain ⟨cs', h1, h2⟩ := hx i (by omega)
      rw [ce] at h1
      obtain ⟨_, hlen, hcell⟩ := World.cells?_some h1
      obtain ⟨q, rfl, hq⟩ := open_act (by simpa using hlen) h2
      refine ⟨q, ⟨_, rfl, k28_mk w q, fun j u hu => ?_⟩, hq⟩
      have hj : j < 3 := by
        have := (List.getElem?_eq_some_iff.1 hu).1
        simpa using this
      have := hcell j hj
      rw [add_add] at this
      rw [this]
      exact hu
    have : Inhabited S28 := ⟨z28⟩
    obtain ⟨q, hq⟩ := Go.Deep.choose_lt each
    have hlen : ((List.range len).map q).length = len := by simp
    refine ⟨some a, cap, (List.range len).map q, by rw [hlen], by rw [hlen]; exact hl, ⟨rfl, ?_, fun _ => ⟨a, rfl, fun j p hj => ?_⟩⟩, ?_⟩
    · rw [hlen]; unfold maxLen at hm; omega
    · have hjl : j < len := by
        have := (List.getElem?_eq_some_iff.1 hj).1
        simpa using this
      have hp : q j = p := by
        rw [List.getElem?_map, List.getElem?_range hjl] at hj
        simpa using hj
      subst hp
      obtain ⟨cs, h1, h2, h3⟩ := (hq j hjl).1
      exact ⟨cs, h1, h2, h3⟩
    · intro x hx'
      obtain ⟨j, hj, rfl⟩ := List.mem_map.1 hx'
      exact (hq j (List.mem_range.1 hj)).2
theorem nums_of {A : Option Addr} {l : List Int} (h : (Kd.int .i64).C w A l.length l) : Nums w A l := fun j hj => by
  obtain ⟨_, _, h3⟩ := h
  obtain ⟨ad, e, hc⟩ := h3 (by omega)
  obtain ⟨c, hs, hr, hcell⟩ := hc j _ (List.getElem?_eq_getElem hj)
  have h1 : c = [.int .i64 l[j]] := hr
  subst h1
  have h2 := hcell 0 _ rfl
  rw [show j * (Kd.int .i64).sz + 0 = j from by show j * 1 + 0 = j; omega] at h2
  exact ⟨ad, e, h2⟩
end
theorem own : ownKnob Tryz.prog.godebug = none := by kernel_rfl
theorem laidOut : laidOutB Tryz.prog = true := by kernel_rfl
set_option maxRecDepth 100000 in
theorem lifted (os : Os) (started : os.Started) (H : Type) (enc : TypeId × Value → H) :
    ReturnsInHanded {} Tryz.checked os 3 .any (Rows.powerCutsSpec.pre6 enc Tryz.prog Tryz.f3 Rows.powerCutsRow.domain false) (Rows.powerCutsSpec.post enc Tryz.prog Tryz.f3 false true false false) := by
  refine returnsInHanded_of_change_sized (C := Tryz.checked) own started (by kernel_rfl) Tryz.func3
    (ChangeSpec.witness6 (enc := enc) (C := Tryz.checked) false ⟨#[], #[.int .u8 0, .slice none 0 0, .slice none 0 0], []⟩ 8 (by kernel_rfl) (by kernel_rfl) (by kernel_rfl) (by kernel_rfl)) ?_
  intro W base args ds gs before hval0 hW hcnd hsz0 _
  have hval : ∀ (j : Nat) t v, Tryz.f3.params[j]? = some t → args[j]? = some v → Value.okWide Tryz.prog W .any base t v := hval0
  have hW' := hW
  obtain ⟨p, q, hA0, hV, rfl, hfz, hnd⟩ := hW
  have hA : DataW.TrodAll enc Tryz.prog W 0 (fun _ => true) true Tryz.f3.params.toList args.toList ds p := hA0
  rw [Tryz.params3] at hA hval
  obtain ⟨v0, vs0, d0, ds0, p0, q0, hargs, rfl, rfl, h0, r0⟩ := trodAll_cons hA
  obtain ⟨v1, vs1, d1, ds1, p1, q1, rfl, rfl, rfl, h1, r1⟩ := trodAll_cons r0
  obtain ⟨v2, vs2, d2, ds2, p2, q2, rfl, rfl, rfl, h2, r2⟩ := trodAll_cons r1
  obtain ⟨rfl, rfl, rfl⟩ := trodAll_nil r2
  obtain rfl : args = #[v0, v1, v2] := by cases args; simp_all
  obtain ⟨rfl, rfl⟩ := trodVars_none hV
  obtain ⟨a0, rfl, rfl, rfl, w0⟩ := open_int Tryz.underlying5 (hval 0 5 v0 rfl rfl) h0
  have k1 := h1
  have lt1 : ∀ x ∈ p1, x.block < W.heap.size := by obtain ⟨m, hm⟩ := k1; exact DataW.trod_lt m _ _ _ hm
  obtain ⟨sa, sn, sc, rfl⟩ := okWide_slice Tryz.underlying22 (hval 1 22 v1 rfl rfl)
  obtain ⟨fu, h1'⟩ := h1
  have h1' : DataW.trod enc Tryz.prog W 0 (fun _ => true) true fu 22 [.slice sa sn sc] = some (d1, p1) := h1'
  obtain ⟨A, cap, keep, hsl, hl, hK, hKn⟩ := open_i64s h1'
  cases hsl
  have k2 := h2
  have lt2 : ∀ x ∈ p2, x.block < W.heap.size := by obtain ⟨m, hm⟩ := k2; exact DataW.trod_lt m _ _ _ hm
  obtain ⟨ta, tn, tc, rfl⟩ := okWide_slice Tryz.underlying23 (hval 2 23 v2 rfl rfl)
  obtain ⟨fu2, h2'⟩ := h2
  have h2' : DataW.trod enc Tryz.prog W 0 (fun _ => true) true fu2 23 [.slice ta tn tc] = some (d2, p2) := h2'
  obtain ⟨A2, cap2, l, hsl2, hl2, hC, hok⟩ := open_acts h2'
  cases hsl2
  clear hA0 hval0 hsz0
  have hw0 := w0
  simp [Lit.wf, IntKind.min, IntKind.max, IntKind.signed, IntKind.bits] at hw0
  have hc := pcuts_calls W a0.toNat (by omega) sa sc keep (nums_of hK) hKn hK.2.1 ta tc l hC hl2 hok
  rw [show ((a0.toNat : Nat) : Int) = a0 by omega] at hc
  refine hc.mono fun e W' ⟨he, bel⟩ => ?_
  subst he
  exact ⟨_, rfl, _, _, _, [], _, [], hW', trodAll_mk1 (shut_bool Tryz.underlying4 _), (trodAll_cons_mk (shut_int Tryz.underlying5 w0) (trodAll_cons_mk (Below.trod laidOut (by kernel_rfl) (of_decide_eq_true (by kernel_rfl)) k1 bel lt1) (trodAll_cons_mk (Below.trod laidOut (by kernel_rfl) (of_decide_eq_true (by kernel_rfl)) k2 bel lt2) trodAll_mk0))), rfl, bel.frame _, fun h => by cases h⟩
theorem over : Rows.powerCutsRow.holds Tryz.pinned (OpenSpec.ofChange Rows.powerCutsSpec) :=
  OpenClaim.holds_of_wide 3 Tryz.f3 rfl rfl rfl rfl rfl rfl rfl ⟨rfl, rfl, rfl, rfl, rfl⟩ rfl rfl rfl rfl rfl (by kernel_rfl) Tryz.func3 (by kernel_rfl)
    (of_decide_eq_true (by kernel_rfl)) (by unfold Func.isWrapper; first | (rw [if_pos (by decide +kernel)]; kernel_rfl) | (rw [if_neg (by decide +kernel)]; exact ⟨rfl, rfl⟩))
    (fun os started H enc _ => lifted os started H enc)
theorem proved : Rows.PowerCutsSaid := over
#print axioms proved
end Go.Proofs.YtbffgpfkgmhmhaaGreat.powerCuts
namespace Go.Proofs.YtbffgpfkgmhmhaaGreat
/-- The row, under a short name, for the claim. -/
theorem powerCuts_holds : Rows.PowerCutsSaid := powerCuts.proved
end Go.Proofs.YtbffgpfkgmhmhaaGreat
