/- Records that go on and agree are told just so; of a beginning of their bytes those that are whole. Conditions: the package-level table is as the program's text lays it (tied on the card). -/
import Derived.Test.YtnhjhaphfdlkfaaDoorVMb
import Derived.Test.YtnhjhaphfdlkfaaDoorVMe
import Derived.Test.YtnhjhaphfdlkfaaDoorTie
import Derived.Test.YtnhjhaphfdlkfaaDoorCards
import Derived.Deep.SlicePairs
import Derived.Lib.SmallJoins
import Derived.ShutString
import Derived.SevenTiedAt
set_option linter.unusedVariables false
namespace Go.Proofs.YtnhjhaphfdlkfaaDoor.segmentBack
open Go.ChangeShapes Go.WideShapes Go.ChangeAt Go.RowKit Go.Proofs.YtnhjhaphfdlkfaaDoor.LaidAt Go.Proofs.YtnhjhaphfdlkfaaDoorW.PrintWords
section
variable {H : Type} {enc : TypeId × Value → H} {w : World} {base : Nat} {sp : Nat → Bool} {held : Bool}
theorem u64_of_trod {fuel : Nat} {c : Value} {y : DataW H × List MemPlace} (h : DataW.trod enc Tryd.prog w base sp held fuel 22 [c] = some y) : ∃ n, c = .int .u64 n ∧ 0 ≤ n ∧ n < 18446744073709551616 := by
  cases fuel with
  | zero => simp [DataW.trod] at h
  | succ fuel =>
    cases c <;> simp [DataW.trod, Tryd.underlying22] at h
    rename_i k' n
    obtain ⟨⟨rfl, hw⟩, rfl⟩ := h
    refine ⟨n, rfl, ?_⟩
    simp [Lit.wf, IntKind.min, IntKind.max, IntKind.signed, IntKind.bits] at hw
    omega
theorem u8_of_trod {fuel : Nat} {c : Value} {y : DataW H × List MemPlace} (h : DataW.trod enc Tryd.prog w base sp held fuel 5 [c] = some y) : ∃ n, c = .int .u8 n ∧ 0 ≤ n ∧ n < 256 := by
  cases fuel with
  | zero => simp [DataW.trod] at h
  | succ fuel =>
    cases c <;> simp [DataW.trod, Tryd.underlying5] at h
    rename_i k' n
    obtain ⟨⟨rfl, hw⟩, rfl⟩ := h
    refine ⟨n, rfl, ?_⟩
    simp [Lit.wf, IntKind.min, IntKind.max, IntKind.signed, IntKind.bits] at hw
    omega
theorem open_u16s {fuel : Nat} {c : Value} {x : DataW H × List MemPlace} (h : DataW.trod enc Tryd.prog w base sp held fuel 62 [c] = some x) :
    ∃ (A : Option Addr) (cap : Nat) (l : List Int), c = .slice A l.length cap ∧ (∀ (j : Nat) (hj : j < l.length), ∃ ad, A = some ad ∧ w.cell? (ad.add j) = some (.int .u16 l[j])) ∧ ∀ x ∈ l, 0 ≤ x ∧ x < 65536 := by
  rcases open_ints Tryd.underlying62 Tryd.underlying65 (by kernel_rfl) h with ⟨hc, _⟩ | ⟨a, len, cap, zs, hc, _, hl, hm, hz, _, hcell, hwz⟩
  · simp at hc
    subst hc
    exact ⟨none, 0, [], rfl, fun j hj => by simp at hj, fun x hx => by simp at hx⟩
  · simp at hc
    subst hc
    have hlz : len ≤ zs.length := by rw [hz]; split <;> omega
    have hlen : (zs.take len).length = len := by rw [List.length_take]; omega
    refine ⟨some a, cap, zs.take len, by rw [hlen], fun j hj => ⟨a, rfl, ?_⟩, ?_⟩
    · have hjl : j < len := by omega
      have hc := hcell j (by omega)
      have hp : zs.getD j 0 = (zs.take len)[j] := by
        rw [List.getD_eq_getElem?_getD, List.getElem?_eq_getElem (by omega), List.getElem_take]; rfl
      rw [hp] at hc
      exact hc
    · intro x hx
      have := hwz x (List.mem_of_mem_take hx)
      simp [Lit.wf, IntKind.min, IntKind.max, IntKind.signed, IntKind.bits] at this
      omega
set_option maxRecDepth 100000 in
theorem open_play {r : Reach} {b0 : Nat} {v : Value} {d : DataW H} {p : List MemPlace} (hv : Value.okWide Tryd.prog w r b0 64 v) (h : DataW.Trod enc Tryd.prog w base sp held 64 v d p) :
    ∃ (pl f : Int) (A : Option Addr) (c : Nat) (l : List Int), v = .agg #[.int .u8 pl, .int .u64 f, .slice A l.length c] ∧ (0 ≤ pl ∧ pl < 256) ∧ (0 ≤ f ∧ f < 18446744073709551616) ∧
      (∀ (j : Nat) (hj : j < l.length), ∃ ad, A = some ad ∧ w.cell? (ad.add j) = some (.int .u16 l[j])) ∧ ∀ x ∈ l, 0 ≤ x ∧ x < 65536 := by
  obtain ⟨v0, v1, v2, y0, y1, y2, n, rfl, _, _, h0, h1, h2⟩ := Go.Joins.open_agg3 Tryd.underlying64 (by kernel_rfl) (by kernel_rfl) hv h
  obtain ⟨pl, rfl, p0, p1⟩ := u8_of_trod h0
  obtain ⟨f, rfl, e0, e1⟩ := u64_of_trod h1
  obtain ⟨A, c, l, rfl, q, s⟩ := open_u16s h2
  exact ⟨pl, f, A, c, l, rfl, ⟨p0, p1⟩, ⟨e0, e1⟩, q, s⟩
end
theorem laidOut : laidOutB Tryd.prog = true := by kernel_rfl
set_option maxRecDepth 100000 in
theorem lifted (os : Os) (started : os.Started) (H : Type) (enc : TypeId × Value → H) :
    ReturnsInHanded {} Tryd.checked os 7 .any (fun w args => (Rows.segmentBackSpec.pre enc Tryd.prog Tryd.f7 Rows.segmentBackRow.domain false w args ∧ laidMet Tryd.prog [("hindcast/crc.steps", Rows.laid_hindcast_crc_steps)] w) ∧ sizedMet enc Tryd.prog Tryd.f7 (OpenSpec.ofChange Rows.segmentBackSpec) false w args)
      (Rows.segmentBackSpec.post enc Tryd.prog Tryd.f7 false true false false) := by
  refine returnsInHanded_of_change_and (C := Tryd.checked) (X := XL) XL_heap own started (by kernel_rfl) Tryd.func7
    (ChangeSpec.witness_at (enc := enc) (C := Tryd.checked) (os := os) (X := XL) false (laidWorld os) #[.agg #[.int .u8 0, .int .u64 0, .slice none 0 0], .int .u16 0] 8 rfl (by kernel_rfl) (by kernel_rfl) (by kernel_rfl) (by kernel_rfl) (by kernel_rfl) (met os _)) ?_
  intro W base args ds gs before hval0 hW hcnd hsz0 hL _
  have hval : ∀ (j : Nat) t v, Tryd.f7.params[j]? = some t → args[j]? = some v → Value.okWide Tryd.prog W .any base t v := hval0
  have hW' := hW
  obtain ⟨p, q, hA0, hV, rfl, hfz, hnd⟩ := hW
  have hA : DataW.TrodAll enc Tryd.prog W 0 (fun _ => true) true Tryd.f7.params.toList args.toList ds p := hA0
  rw [Tryd.params7] at hA hval
  obtain ⟨v0, vs0, d0, ds0, p0, q0, hargs, rfl, rfl, h0, r0⟩ := trodAll_cons hA
  obtain ⟨v1, vs1, d1, ds1, p1, q1, rfl, rfl, rfl, h1, r1⟩ := trodAll_cons r0
  obtain ⟨rfl, rfl, rfl⟩ := trodAll_nil r1
  obtain rfl : args = #[v0, v1] := by cases args; simp_all
  obtain ⟨rfl, rfl⟩ := trodVars_none hV
  have k0 := h0
  have lt0 : ∀ x ∈ p0, x.block < W.heap.size := by obtain ⟨m, hm⟩ := k0; exact DataW.trod_lt m _ _ _ hm
  obtain ⟨pl, f, A, c, l, rfl, hp, hf, hcell, hl⟩ := open_play (hval 0 64 v0 rfl rfl) h0
  obtain ⟨a1, rfl, rfl, rfl, w1⟩ := open_int Tryd.underlying65 (hval 1 65 v1 rfl rfl) h1
  have hc : 0 ≤ a1 ∧ a1 < 65536 := by
    have h9 := w1
    simp [Lit.wf, IntKind.min, IntKind.max, IntKind.signed, IntKind.bits] at h9
    omega
  clear hA0 hval0 hsz0
  refine (Sg.back_calls W (laid_of hL) pl f A c l a1 hp hf hc hl hcell).mono fun e W' ⟨he, bel⟩ => ?_
  subst he
  exact ⟨_, rfl, _, _, _, [], _, [], hW', trodAll_mk1 (shut_bool Tryd.underlying4 _), (trodAll_cons_mk (Below.trod laidOut (by kernel_rfl) (of_decide_eq_true (by kernel_rfl)) k0 bel lt0) (trodAll_cons_mk (shut_int Tryd.underlying65 w1) trodAll_mk0)), rfl, bel.frame _, fun h => by cases h⟩
theorem over : Rows.segmentBackRow.holds Tryd.pinned (OpenSpec.ofChange Rows.segmentBackSpec) :=
  OpenClaim.holds_of_wide 7 Tryd.f7 rfl rfl rfl rfl rfl rfl rfl ⟨rfl, rfl, rfl, rfl, rfl⟩ rfl rfl rfl rfl rfl (by kernel_rfl) Tryd.func7 (by kernel_rfl)
    (of_decide_eq_true (by kernel_rfl)) (by unfold Func.isWrapper; first | (rw [if_pos (by decide +kernel)]; kernel_rfl) | (rw [if_neg (by decide +kernel)]; exact ⟨rfl, rfl⟩))
    (fun os started H enc _ => lifted os started H enc)
theorem card : Rows.SegmentBackCardSaid :=
  Claim7.holds_tied_plain_at .later [] [.data] true (true, "769683810366856b78047001fc7f544ec37876e349c97efb15abe709577f1666") false
    over (fun _ h => by cases h) (by kernel_rfl) (fun _ h => by cases h) segmentBack_row_tie rfl ⟨rfl, rfl⟩ (by kernel_rfl) rfl
    (fun f fn hf hfn => by
      obtain rfl : f = 7 := Option.some.inj ((show Tryd.prog.funcNamed "hindcast/hindcastlaw16.SegmentBack" = some 7 by kernel_rfl).symm.trans hf) |>.symm
      obtain rfl : fn = Tryd.f7 := (Option.some.inj (Tryd.func7.symm.trans hfn)).symm
      exact ⟨by kernel_rfl, fun j t ht => by
        rw [Tryd.params7] at ht
        have h3 : t = 64 ∨ t = 65 := by
          rcases j with _ | _ | j
          · exact Or.inl (by simpa using ht.symm)
          · exact Or.inr (by simpa using ht.symm)
          · simp at ht
        rcases h3 with rfl | rfl
        · exact (show Tryd.prog.wantsStandIn 64 = false by kernel_rfl)
        · exact (show Tryd.prog.wantsStandIn 65 = false by kernel_rfl)⟩)
    (by kernel_rfl)
#print axioms card
end Go.Proofs.YtnhjhaphfdlkfaaDoor.segmentBack
namespace Go.Proofs.YtnhjhaphfdlkfaaDoor
/-- The card, under a short name, for the claim. -/
theorem segmentBack_card_holds : Rows.SegmentBackCardSaid := segmentBack.card
end Go.Proofs.YtnhjhaphfdlkfaaDoor
