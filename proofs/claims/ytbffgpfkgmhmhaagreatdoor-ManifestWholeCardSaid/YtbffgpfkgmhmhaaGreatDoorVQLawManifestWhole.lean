/- Wherever the power goes off in a swap, behind it the disk tells either what it told ahead of it, or the new manifest; if the swap was OK, the new one: of any steps. Conditions: the package-level table is as the program's text lays it (tied on the card). -/
import Derived.Test.YtbffgpfkgmhmhaaGreatDoorVMb
import Derived.Test.YtbffgpfkgmhmhaaGreatDoorVMg
import Derived.Test.YtbffgpfkgmhmhaaGreatDoorTie
import Derived.Test.YtbffgpfkgmhmhaaGreatDoorCards
import Derived.SevenTiedAt
set_option linter.unusedVariables false
namespace Go.Proofs.YtbffgpfkgmhmhaaGreatDoor.manifestWhole
open Go.ChangeShapes Go.WideShapes Go.ChangeAt Go.RowKit Go.Proofs.YtbffgpfkgmhmhaaGreatDoor.LaidAt Go.Proofs.YtbffgpfkgmhmhaaGreatDoor.Dw Go.Proofs.YtbffgpfkgmhmhaaGreatDoor.HM Go.Proofs.YtbffgpfkgmhmhaaGreatDoorW.PrintWords
section
variable {H : Type} {enc : TypeId × Value → H} {w : World} {base : Nat} {sp : Nat → Bool} {held : Bool}
theorem i64_of_trod {fuel : Nat} {c : Value} {y : DataW H × List MemPlace} (h : DataW.trod enc Tryz.prog w base sp held fuel 3 [c] = some y) : ∃ n, c = .int .i64 n ∧ -9223372036854775808 ≤ n ∧ n ≤ 9223372036854775807 := by
  cases fuel with
  | zero => simp [DataW.trod] at h
  | succ fuel =>
    cases c <;> simp [DataW.trod, Tryz.underlying3] at h
    rename_i k' n
    obtain ⟨⟨rfl, hw⟩, rfl⟩ := h
    refine ⟨n, rfl, ?_⟩
    simp [Lit.wf, IntKind.min, IntKind.max, IntKind.signed, IntKind.bits] at hw
    omega
theorem open_i64s {fuel : Nat} {c : Value} {x : DataW H × List MemPlace} (h : DataW.trod enc Tryz.prog w base sp held fuel 48 [c] = some x) :
    ∃ (A : Option Addr) (cap : Nat) (l : List Int), c = .slice A l.length cap ∧ l.length ≤ cap ∧ (Kd.int .i64).C w A l.length l ∧ (A = none → l = []) := by
  rcases open_ints Tryz.underlying48 Tryz.underlying3 (by kernel_rfl) h with ⟨hc, _⟩ | ⟨a, len, cap, zs, hc, _, hl, hm, hz, _, hcell, hwz⟩
  · simp at hc
    subst hc
    exact ⟨none, 0, [], rfl, Nat.le_refl _, ⟨rfl, by decide, fun h => by simp at h⟩, fun _ => rfl⟩
  · simp at hc
    subst hc
    have hlz : len ≤ zs.length := by rw [hz]; split <;> omega
    have hlen : (zs.take len).length = len := by rw [List.length_take]; omega
    refine ⟨some a, cap, zs.take len, by rw [hlen], by rw [hlen]; exact hl, ⟨rfl, by rw [hlen]; unfold maxLen at hm; omega, fun _ => ⟨a, rfl, fun j p hj => ?_⟩⟩, fun h => by cases h⟩
    have hjl : j < len := by
      have := (List.getElem?_eq_some_iff.1 hj).1
      omega
    have hc := hcell j (by omega)
    have hp : zs.getD j 0 = p := by
      rw [List.getElem?_take, if_pos hjl] at hj
      rw [List.getD_eq_getElem?_getD, hj]; rfl
    rw [hp] at hc
    refine ⟨[.int .i64 p], rfl, rfl, fun i u hu => ?_⟩
    have hi : i = 0 := by
      have := (List.getElem?_eq_some_iff.1 hu).1
      simpa using this
    subst hi
    simp at hu
    subst hu
    rw [show j * (Kd.int .i64).sz + 0 = j from by show j * 1 + 0 = j; omega]
    exact hc
theorem nums_of {A : Option Addr} {l : List Int} (h : (Kd.int .i64).C w A l.length l) : Nums w A l := fun j hj => by
  obtain ⟨_, _, h3⟩ := h
  obtain ⟨ad, e, hc⟩ := h3 (by omega)
  obtain ⟨c, hs, hr, hcell⟩ := hc j _ (List.getElem?_eq_getElem hj)
  have h1 : c = [.int .i64 l[j]] := hr
  subst h1
  have h2 := hcell 0 _ rfl
  rw [show j * (Kd.int .i64).sz + 0 = j from by show j * 1 + 0 = j; omega] at h2
  exact ⟨ad, e, h2⟩
set_option maxRecDepth 100000 in
theorem open_m {fuel : Nat} {cs : List Value} {x : DataW H × List MemPlace} (hl : cs.length = 4) (h : DataW.trod enc Tryz.prog w base sp held fuel 26 cs = some x) :
    ∃ (e p : Int) (A2 : Option Addr) (c2 : Nat) (l2 : List S29) (A3 : Option Addr) (c3 : Nat) (l3 : List Int), cs = [.int .u64 e, .int .u8 p, .slice A2 l2.length c2, .slice A3 l3.length c3] ∧
      (0 ≤ e ∧ e < 18446744073709551616) ∧ (0 ≤ p ∧ p < 256) ∧ Kd.C k29 w A2 l2.length l2 ∧ l2.length ≤ c2 ∧ Kd.C (Kd.int .u64) w A3 l3.length l3 ∧ l3.length ≤ c3 ∧ PM.okNums l2 l3 := by
  obtain ⟨xs, k, hk, hxy, _, hxl, hf⟩ := DataW.trod_struct Tryz.underlying26 h
  match xs, hxl, cs, hl with
  | [y0, y1, y2, y3], _, [v0, v1, v2, v3], _ =>
    have g0 := hf 0 _ rfl
    have g1 := hf 1 _ rfl
    have g2 := hf 2 _ rfl
    have g3 := hf 3 _ rfl
    have c22 : Tryz.prog.cellsOf 22 = 1 := by kernel_rfl
    have c5 : Tryz.prog.cellsOf 5 = 1 := by kernel_rfl
    have c23 : Tryz.prog.cellsOf 23 = 1 := by kernel_rfl
    have c24 : Tryz.prog.cellsOf 24 = 1 := by kernel_rfl
    simp [c22] at g0
    simp [c5] at g1
    simp [c23] at g2
    simp [c24] at g3
    obtain ⟨e, rfl, e0, e1⟩ := u64_of_trod g0
    obtain ⟨p, rfl, p0, p1⟩ := u8_of_trod g1
    obtain ⟨A2, c2, l2, rfl, q2, r2, s2⟩ := open_parts g2
    obtain ⟨A3, c3, l3, rfl, q3, r3, s3⟩ := open_u64s g3
    exact ⟨e, p, A2, c2, l2, A3, c3, l3, rfl, ⟨e0, e1⟩, ⟨p0, p1⟩, r2, q2, r3, q3, s2, s3⟩
set_option maxRecDepth 100000 in
theorem open_step {fuel : Nat} {cs : List Value} {x : DataW H × List MemPlace} (hl : cs.length = 6) (h : DataW.trod enc Tryz.prog w base sp held fuel 50 cs = some x) :
    ∃ (q : SV), cs = [.int .u64 q.e, .int .u8 q.p, .slice q.A2 q.l2.length q.c2, .slice q.A3 q.l3.length q.c3, .int .i64 q.fuse, .slice q.Ak q.keep.length q.ck] ∧ okSV w q := by
  obtain ⟨xs, k, hk, hxy, _, hxl, hf⟩ := DataW.trod_struct Tryz.underlying50 h
  match xs, hxl, cs, hl with
  | [y0, y1, y2], _, [v0, v1, v2, v3, v4, v5], _ =>
    have g0 := hf 0 _ rfl
    have g1 := hf 1 _ rfl
    have g2 := hf 2 _ rfl
    have c26 : Tryz.prog.cellsOf 26 = 4 := by kernel_rfl
    have c3 : Tryz.prog.cellsOf 3 = 1 := by kernel_rfl
    have c48 : Tryz.prog.cellsOf 48 = 1 := by kernel_rfl
    simp [c26] at g0
    simp [c3] at g1
    simp [c48] at g2
    obtain ⟨e, p, A2, c2, l2, A3, c3', l3, hcs, he, hp, r2, q2, r3, q3, ho⟩ := open_m rfl g0
    simp only [List.cons.injEq, and_true] at hcs
    obtain ⟨rfl, rfl, rfl, rfl⟩ := hcs
    obtain ⟨f, rfl, f0, f1⟩ := i64_of_trod g1
    obtain ⟨Ak, ck, keep, rfl, _, rk, hn⟩ := open_i64s g2
    exact ⟨⟨e, p, A2, c2, l2, A3, c3', l3, f, Ak, ck, keep⟩, rfl, ⟨he, hp, ho, r2, q2, r3, q3, ⟨f0, f1⟩, hn, nums_of rk⟩⟩
theorem open_steps {fuel : Nat} {c : Value} {x : DataW H × List MemPlace} (h : DataW.trod enc Tryz.prog w base sp held fuel 46 [c] = some x) :
    ∃ (A : Option Addr) (cap : Nat) (l : List SV), c = .slice A l.length cap ∧ l.length ≤ 9223372036854775807 ∧ StepsAt w A l ∧ ∀ x ∈ l, okSV w x := by
  rcases Go.Deep.open_slice Tryz.underlying46 h with ⟨hc, _⟩ | ⟨a, len, cap, m, n, D, Pl, hc, _, hl, hm, hmm, _, hx⟩
  · simp at hc
    subst hc
    exact ⟨none, 0, [], rfl, by decide, fun j hj => by simp at hj, fun x hx => by simp at hx⟩
  · simp at hc
    subst hc
    have ce : Tryz.prog.cellsOf 50 = 6 := by kernel_rfl
    have hlm : len ≤ m := by rw [hmm]; split <;> omega
    have each : ∀ i, i < len → ∃ q : SV, SC w (a.add (i * 6)) q ∧ okSV w q := by
      intro i hi
      obtain ⟨cs', h1, h2⟩ := hx i (by omega)
      rw [ce] at h1
      obtain ⟨_, hlen, hcell⟩ := World.cells?_some h1
      obtain ⟨q, hq, hok⟩ := open_step (by simpa using hlen) h2
      have hq2 : cs' = #[.int .u64 q.e, .int .u8 q.p, .slice q.A2 q.l2.length q.c2, .slice q.A3 q.l3.length q.c3, .int .i64 q.fuse, .slice q.Ak q.keep.length q.ck].toList := by simpa using hq
      have hat : ∀ j u, j < 6 → cs'[j]? = some u → w.cell? ((a.add (i * 6)).add j) = some u := fun j u hj hu => by
        have := hcell j hj
        rw [this]
        simpa using hu
      have h6 : ∀ j, j < 6 → 0 < j → (a.add (i * 6)).add j = ⟨(a.add (i * 6)).block, (a.add (i * 6)).off + j, none⟩ := fun j _ h0 => by
        generalize a.add (i * 6) = b
        unfold Addr.add
        rw [if_neg (by omega)]
      refine ⟨q, ⟨?_, ?_, ?_, ?_, ?_, ?_⟩, hok⟩
      · have := hat 0 (.int .u64 q.e) (by decide) (by rw [hq2]; rfl)
        rw [add_zero'] at this
        exact this
      · rw [← h6 1 (by decide) (by decide)]; exact hat 1 _ (by decide) (by rw [hq2]; rfl)
      · rw [← h6 2 (by decide) (by decide)]; exact hat 2 _ (by decide) (by rw [hq2]; rfl)
      · rw [← h6 3 (by decide) (by decide)]; exact hat 3 _ (by decide) (by rw [hq2]; rfl)
      · rw [← h6 4 (by decide) (by decide)]; exact hat 4 _ (by decide) (by rw [hq2]; rfl)
      · rw [← h6 5 (by decide) (by decide)]; exact hat 5 _ (by decide) (by rw [hq2]; rfl)
    have : Inhabited SV := ⟨⟨0, 0, none, 0, [], none, 0, [], 0, none, 0, []⟩⟩
    obtain ⟨q, hq⟩ := Go.Deep.choose_lt each
    have hlen : ((List.range len).map q).length = len := by simp
    refine ⟨some a, cap, (List.range len).map q, by rw [hlen], by rw [hlen]; unfold maxLen at hm; omega, fun j hj => ⟨a, rfl, ?_⟩, fun x hx' => ?_⟩
    · have hjl : j < len := by omega
      have := (hq j hjl).1
      unfold SC at this
      simpa using this
    · obtain ⟨j, hj, rfl⟩ := List.mem_map.1 hx'
      exact (hq j (List.mem_range.1 hj)).2
end
theorem laidOut : laidOutB Tryz.prog = true := by kernel_rfl
set_option maxRecDepth 100000 in
theorem lifted (os : Os) (started : os.Started) (H : Type) (enc : TypeId × Value → H) :
    ReturnsInHanded {} Tryz.checked os 4 .any (fun w args => (Rows.manifestWholeSpec.pre enc Tryz.prog Tryz.f4 Rows.manifestWholeRow.domain false w args ∧ laidMet Tryz.prog [("hindcast/crc.steps", Rows.laid_hindcast_crc_steps)] w) ∧ sizedMet enc Tryz.prog Tryz.f4 (OpenSpec.ofChange Rows.manifestWholeSpec) false w args)
      (Rows.manifestWholeSpec.post enc Tryz.prog Tryz.f4 false true false false) := by
  refine returnsInHanded_of_change_and (C := Tryz.checked) (X := XL) XL_heap own started (by kernel_rfl) Tryz.func4
    (ChangeSpec.witness_at (enc := enc) (C := Tryz.checked) (os := os) (X := XL) false (laidWorld os) #[.slice none 0 0] 8 rfl (by kernel_rfl) (by kernel_rfl) (by kernel_rfl) (by kernel_rfl) (by kernel_rfl) (met os _)) ?_
  intro W base args ds gs before hval0 hW hcnd hsz0 hL _
  have hval : ∀ (j : Nat) t v, Tryz.f4.params[j]? = some t → args[j]? = some v → Value.okWide Tryz.prog W .any base t v := hval0
  have hW' := hW
  obtain ⟨p, q, hA0, hV, rfl, hfz, hnd⟩ := hW
  have hA : DataW.TrodAll enc Tryz.prog W 0 (fun _ => true) true Tryz.f4.params.toList args.toList ds p := hA0
  rw [Tryz.params4] at hA hval
  obtain ⟨v0, vs0, d0, ds0, p0, q0, hargs, rfl, rfl, h0, r0⟩ := trodAll_cons hA
  obtain ⟨rfl, rfl, rfl⟩ := trodAll_nil r0
  obtain rfl : args = #[v0] := by cases args; simp_all
  obtain ⟨rfl, rfl⟩ := trodVars_none hV
  have k0 := h0
  have lt0 : ∀ x ∈ p0, x.block < W.heap.size := by obtain ⟨m, hm⟩ := k0; exact DataW.trod_lt m _ _ _ hm
  obtain ⟨sa, sn, sc, rfl⟩ := okWide_slice Tryz.underlying46 (hval 0 46 v0 rfl rfl)
  obtain ⟨fu, h1'⟩ := h0
  have h1' : DataW.trod enc Tryz.prog W 0 (fun _ => true) true fu 46 [.slice sa sn sc] = some (d0, p0) := h1'
  obtain ⟨A, cap, l, hsl, hll, hat, hok⟩ := open_steps h1'
  cases hsl
  clear hA0 hval0 hsz0
  refine (whole_calls W (laid_of hL) _ _ l hll hat hok).mono fun e W' ⟨he, bel⟩ => ?_
  subst he
  exact ⟨_, rfl, _, _, _, [], _, [], hW', trodAll_mk1 (shut_bool Tryz.underlying4 _), (trodAll_cons_mk (Below.trod laidOut (by kernel_rfl) (of_decide_eq_true (by kernel_rfl)) k0 bel lt0) trodAll_mk0), rfl, bel.frame _, fun h => by cases h⟩
theorem over : Rows.manifestWholeRow.holds Tryz.pinned (OpenSpec.ofChange Rows.manifestWholeSpec) :=
  OpenClaim.holds_of_wide 4 Tryz.f4 rfl rfl rfl rfl rfl rfl rfl ⟨rfl, rfl, rfl, rfl, rfl⟩ rfl rfl rfl rfl rfl (by kernel_rfl) Tryz.func4 (by kernel_rfl)
    (of_decide_eq_true (by kernel_rfl)) (by unfold Func.isWrapper; first | (rw [if_pos (by decide +kernel)]; kernel_rfl) | (rw [if_neg (by decide +kernel)]; exact ⟨rfl, rfl⟩))
    (fun os started H enc _ => lifted os started H enc)
theorem card : Rows.ManifestWholeCardSaid :=
  Claim7.holds_tied_plain_at .later [] [.data] true (true, "262c987275fa12c69ccfff59c8a6a4328d02da52af56910ef063df7ff799f9d5") false
    over (fun _ h => by cases h) (by kernel_rfl) (fun _ h => by cases h) manifestWhole_row_tie rfl ⟨rfl, rfl⟩ (by kernel_rfl) rfl
    (fun f fn hf hfn => by
      obtain rfl : f = 4 := Option.some.inj ((show Tryz.prog.funcNamed "hindcast/hindcastlaw17.ManifestWhole" = some 4 by kernel_rfl).symm.trans hf) |>.symm
      obtain rfl : fn = Tryz.f4 := (Option.some.inj (Tryz.func4.symm.trans hfn)).symm
      exact ⟨by kernel_rfl, fun j t ht => by
        rw [Tryz.params4] at ht
        have h3 : t = 46 := by
          rcases j with _ | j
          · simpa using ht.symm
          · simp at ht
        subst h3
        exact (show Tryz.prog.wantsStandIn 46 = false by kernel_rfl)⟩)
    (by kernel_rfl)
#print axioms card
end Go.Proofs.YtbffgpfkgmhmhaaGreatDoor.manifestWhole
namespace Go.Proofs.YtbffgpfkgmhmhaaGreatDoor
/-- The card, under a short name, for the claim. -/
theorem manifestWhole_card_holds : Rows.ManifestWholeCardSaid := manifestWhole.card
end Go.Proofs.YtbffgpfkgmhmhaaGreatDoor
