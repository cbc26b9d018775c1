/- The document's Recv: the walk at a way. -/
import Derived.Test.YtjdehmclcdiijaaRr
import Derived.Deep.QuietTactic
set_option linter.unusedVariables false
namespace Go.Proofs.Ytjdehmclcdiijaa.Hp
open Go.RowKit Go.Proofs.YtjdehmclcdiijaaW.PrintWords Go.Proofs.YtjdehmclcdiijaaW.PrintLast Go.Proofs.YtjdehmclcdiijaaW.PrintMore

theorem rv_row {w : World} {base g : Nat} {a : AN} {F : Nat → Prop} {vs : Nat → Value} (h : IsRV w base g a F vs) {o : Nat} (ho : o < 2) {i : Nat} (hi : i < (a.L o).length) :
    ∃ b cap, vs o = .slice (some ⟨b, 0, none⟩) (a.L o).length cap ∧ (a.L o).length ≤ cap ∧ ∀ i, i < (a.L o).length → w.cell? ⟨b, i * 2, none⟩ = some (.string ((a.L o).getD i g0).2) ∧ w.cell? ⟨b, i * 2 + 1, none⟩ = some (.int .u64 ((a.L o).getD i g0).1) := by
  have h1 := (h.2.1 o ho).1
  rcases h1.2 with ⟨_, hn⟩ | ⟨b, cap, cur, hv, hb, hh, hc, hm, hs, ht⟩
  · omega
  · rw [hv] at h1
    refine ⟨b, cap, hv, hc, fun i hi => ?_⟩
    have hf := flat2_at (a.L o) i hi
    exact ⟨(h1.cellAt _ (by omega)).trans hf.1, (h1.cellAt _ (by omega)).trans hf.2⟩
theorem step_yes {L : List DG} {now : Int} {i : Nat} (h : (L.getD i g0).1 ≤ now ∧ (rbest L now i < 0 ∨ (L.getD i g0).1 < (L.getD (rbest L now i).toNat g0).1)) : rbest L now (i + 1) = i := by rw [rbest, if_pos h]
theorem step_no {L : List DG} {now : Int} {i : Nat} (h : ¬ ((L.getD i g0).1 ≤ now ∧ (rbest L now i < 0 ∨ (L.getD i g0).1 < (L.getD (rbest L now i).toNat g0).1))) : rbest L now (i + 1) = rbest L now i := by rw [rbest, if_neg h]

set_option maxHeartbeats 4000000 in
set_option maxRecDepth 100000 in
theorem r_recv0 (w : World) (base g : Nat) (a : AN) (F : Nat → Prop) (h : IsR w base g a F) (B : Int) (hs : ASmall a B) (hB : B ≤ 100000) (rs : ByteArray) (rb : Bool) (ra : AN)
    (hR : (aready a 0 = true → rs = atop a 0 ∧ rb = true ∧ ra = arecv a 0) ∧ (aready a 0 = false → rs = .empty ∧ rb = false ∧ ra = a)) :
    Calls Try.prog 18 #[.pointer (some ⟨g, 0, none⟩), .int .i64 0] w fun e w' => e = .returned (.tuple #[.string rs, .bool rb]) ∧ DidR w w' base g ra F := by
  have HRS := Lib.hid hR
  clear hR
  obtain ⟨vs, hv⟩ := h
  obtain ⟨ad, cap, hvs⟩ := own_len (hv.2.1 0 (by omega)).1
  have cq : w.cell? ⟨g, 2, none⟩ = some (vs 0) := rv_q hv (o := 0) (by omega)
  rw [hvs] at cq
  have cn : w.cell? ⟨g, 1, none⟩ = some (.int .u64 a.now) := rv_cell hv 1
  have hq := hs.q 0 (by omega)
  have hmm := hs.most
  have HV := Lib.hid hv
  have HS := Lib.hid hs
  have hln : (a.L 0).length ≤ 64 := by omega
  clear hv hs hq
  go_enter Try.func18, Try.ntmps18
  go_wp2
  go_loopw [6, 7] (fun t6 t7 wr => ∃ k : Nat, k ≤ (a.L 0).length ∧ t7 = .int .i64 k ∧ t6 = .int .i64 (rbest (a.L 0) a.now k) ∧ ∃ m, wr = w.drewN m) (fun _ t7 _ => 64 - (intOf t7).toNat)
  case atStart => exact ⟨0, by omega, rfl, rfl, 0, rfl⟩
  case round =>
    obtain ⟨k, hk, rfl, rfl, m, rfl⟩ := hrel
    by_cases hlt : k < (a.L 0).length
    · obtain ⟨b, cap2, hvs2, hcap, hcell⟩ := rv_row HV.out (o := 0) (by omega) hlt
      rw [hvs2] at hvs
      cases hvs
      obtain ⟨x1, x2⟩ := hcell k hlt
      have hsp := rbest_spec (a.L 0) a.now k (by omega)
      have HSp := Lib.hid hsp
      by_cases hd : ((a.L 0).getD k g0).1 ≤ a.now
      · rcases hsp with ⟨e, _⟩ | ⟨p, e, hp, _⟩
        · have hy := step_yes (L := a.L 0) (now := a.now) (i := k) ⟨hd, Or.inl (by omega)⟩
          have HY := Lib.hid hy
          clear hy hcell
          rw [e]
          generalize (a.L 0).getD k g0 = x at *
          go_wp2
          go_quiet (fail)
          go_wp2
          exact ⟨⟨k + 1, by omega, by go_num, by rw [HY.out], _, rfl⟩, by simp [intOf]; omega⟩
        · obtain ⟨y1, y2⟩ := hcell p (by omega)
          have hpn : ¬ ((p : Int) < 0) := by omega
          have hpl : p < (a.L 0).length := by omega
          by_cases hlt2 : ((a.L 0).getD k g0).1 < ((a.L 0).getD p g0).1
          · have hy := step_yes (L := a.L 0) (now := a.now) (i := k) ⟨hd, Or.inr (by rw [e, Int.toNat_natCast]; exact hlt2)⟩
            have HY := Lib.hid hy
            clear hy hcell
            rw [e]
            generalize (a.L 0).getD k g0 = x at *
            generalize (a.L 0).getD p g0 = y at *
            go_wp2
            go_quiet (fail)
            go_wp2
            exact ⟨⟨k + 1, by omega, by go_num, by rw [HY.out], _, rfl⟩, by simp [intOf]; omega⟩
          · have hy := step_no (L := a.L 0) (now := a.now) (i := k) (by rw [e, Int.toNat_natCast]; intro hh; have := hh.2; omega)
            have HY := Lib.hid (hy.trans e)
            clear hy hcell
            rw [e]
            generalize (a.L 0).getD k g0 = x at *
            generalize (a.L 0).getD p g0 = y at *
            go_wp2
            go_quiet (fail)
            go_wp2
            exact ⟨⟨k + 1, by omega, by go_num, by rw [HY.out], _, rfl⟩, by simp [intOf]; omega⟩
      · have hy := step_no (L := a.L 0) (now := a.now) (i := k) (fun hh => hd hh.1)
        have HY := Lib.hid hy
        have hdf : decide (((a.L 0).getD k g0).1 ≤ a.now) = false := decide_eq_false hd
        clear hy hcell hsp
        generalize rbest (a.L 0) a.now k = bb at *
        generalize (a.L 0).getD k g0 = x at *
        go_wp2
        go_quiet (fail)
        go_wp2
        exact ⟨⟨k + 1, by omega, by go_num, by rw [HY.out], _, rfl⟩, by simp [intOf]; omega⟩
    · have hkl : k = (a.L 0).length := by omega
      subst hkl
      rw [rbest_is]
      by_cases hr : aready a 0 = true
      · rw [if_pos hr]
        have hr' := hr
        unfold aready at hr'
        rw [Bool.and_eq_true] at hr'
        have h0 := of_decide_eq_true hr'.1
        obtain ⟨f1, _, _⟩ := fm_spec (a.L 0) h0
        obtain ⟨b, cap2, hvs2, hcap, hcell⟩ := rv_row HV.out (o := 0) (by omega) f1
        rw [hvs2] at hvs
        cases hvs
        obtain ⟨x1, x2⟩ := hcell _ f1
        have HF1 := Lib.hid f1
        have HR := Lib.hid hr
        have HT := Lib.hid (show atop a 0 = ((a.L 0).getD (fm (a.L 0)) g0).2 from rfl)
        have HER := Lib.hid (show arecv a 0 = { a with told := a.told + 1 }.setL 0 ((a.L 0).eraseIdx (fm (a.L 0))) from rfl)
        clear hcell hr hr'
        generalize hf : fm (a.L 0) = f at *
        have hfn : ¬ ((f : Int) < 0) := by omega
        have HRY := Lib.hid (HRS.out.1 HR.out)
        have hwn : IsRV (w.drewN m) base g a F vs := HV.out
        have hbase : base ≤ (w.drewN m).heap.size := Nat.le_trans (hwn.2.2.2.2 g hwn.2.2.2.1).1 (Nat.le_of_lt (rv_lt hwn))
        have hrow := (hwn.2.1 0 (by omega)).1
        have cqm : (w.drewN m).cell? ⟨g, 2, none⟩ = some (.slice (some ⟨b, 0, none⟩) (a.L 0).length cap) := cq
        have x1m : (w.drewN m).cell? ⟨b, f * 2, none⟩ = some (.string ((a.L 0).getD f g0).2) := x1
        have ctm : (w.drewN m).cell? ⟨g, 6, none⟩ = some (.int .i64 a.told) := rv_cell hwn 6
        have hglt : g < (w.drewN m).heap.size := rv_lt hwn
        have HWN := Lib.hid hwn
        rw [hvs2] at hrow
        have HRow := Lib.hid hrow
        have hfl : (f : Int) + 1 ≤ ((a.L 0).length : Int) := by omega
        clear hwn cq x1 x2 cn hrow
        have kW : Kept w (w.drewN m) F := (Kept.refl _ _).drewN m
        have bW : Below base w (w.drewN m) := pw_below_drewN (Below.refl _ _) m
        have KW := Lib.hid kW
        have BW := Lib.hid bW
        clear kW bW
        generalize w.drewN m = w4 at *
        generalize hxx : (a.L 0).getD f g0 = x at *
        go_wp2_with (first | ((with_reducible refine gate_builtin (b := .append) (xs := #[.tmp 86, .tmp 94]) rfl ?_); at_builtin; refine app_rows (w0 := w4) base rfl (.tmp 86) (.tmp 94) 48 75 (.agg #[.string { data := #[] }, .int .u64 0]) 2 24 rfl Try.underlying48 info75 rfl (by decide) (by decide) (.slice none 0 0) 0 [] ⟨b, 0, none⟩ f cap (flat2 ((a.L 0).take f)) rfl rfl ?aL ?aN (flat2_ones _) (World.ownsRow_nil _ _ _ _) (Below.refl _ _) hbase (by omega) ?_; (case aL => rw [flat2_len, List.length_take]; omega); (case aN => intro j u hu; exact HRow.out.cells rfl j u (by rw [← List.take_append_drop f (a.L 0), flat2_append, List.getElem?_append_left (List.getElem?_eq_some_iff.1 hu).1]; exact hu)); intro v5 w5 hown5 hB5 hg5 hat5; have HOwn5 := Lib.hid hown5; have HB5 := Lib.hid hB5; have HG5 := Lib.hid hg5; have HAt5 := Lib.hid hat5; obtain ⟨A5, c5, hv5⟩ := own_len hown5; subst hv5; have cq5 : w5.cell? ⟨g, 2, none⟩ = some (.slice (some ⟨b, 0, none⟩) (a.L 0).length cap) := hg5.cell cqm (by simp [Value.ownBlock]); clear hown5 hB5 hg5 hat5))
        have hglt5 : g < w5.heap.size := Nat.lt_of_lt_of_le hglt HG5.out.size
        simp only [Nat.zero_add] at HAt5
        have ht0 := HS.out.told.1
        have ht1 : a.told < 1000000 := by have := HS.out.told.2; omega
        have hbase5 : base ≤ w5.drew.heap.size := Nat.le_trans hbase HG5.out.size
        obtain ⟨bo, hbb⟩ : ∃ bo, w4.heap[b]? = some bo := by
          rcases HRow.out.2 with ⟨h', _⟩ | ⟨g', cap', cur, hv', _, hh, _⟩
          · cases h'
          · cases hv'; exact ⟨_, hh⟩
        have hnw : ∀ j u, (flat2 ((a.L 0).drop (f + 1)))[j]? = some u → w4.cell? ((⟨b, (f + 1) * 2, none⟩ : Addr).add j) = some u := by
          intro j u hu
          have h9 := HRow.out.cells rfl ((f + 1) * 2 + j) u (by
            rw [← flat2_drop, List.getElem?_drop] at hu
            exact hu)
          have e9 : (⟨b, 0, none⟩ : Addr).add ((f + 1) * 2 + j) = (⟨b, (f + 1) * 2, none⟩ : Addr).add j := by unfold Addr.add; split <;> split <;> simp_all
          rw [← e9]; exact h9
        have HStore := Lib.hid (fun (w6 : World) (v6 : Value) (hown : w6.ownsRow base 75 2 v6 (f + ((a.L 0).length - (f + 1))) (flat2 ((a.L 0).take f) ++ flat2 ((a.L 0).drop (f + 1)))) (hg : w5.drew.grownBy w6 (Value.slice A5 f c5).ownBlock) (hat : v6.ownBlock = (Value.slice A5 f c5).ownBlock ∨ ∃ b, v6.ownBlock = some b ∧ w5.drew.heap.size ≤ b) =>
          isr_store2 (w := w4) (w1 := w6) (v1 := v6) (l := (a.L 0).eraseIdx f) HWN.out (o := 0) (by omega)
            (by rw [List.length_eraseIdx_of_lt HF1.out, List.eraseIdx_eq_take_drop_succ, flat2_append, show (a.L 0).length - 1 = f + ((a.L 0).length - (f + 1)) by have := HF1.out; omega]; exact hown)
            (by
              refine ⟨hg.os.trans HG5.out.os, hg.tape.trans HG5.out.tape, hg.output.trans HG5.out.output, Nat.le_trans HG5.out.size hg.size, fun k hk hn => ?_⟩
              refine (hg.block k (Nat.lt_of_lt_of_le hk HG5.out.size) ?_).trans (HG5.out.block k hk (by simp [Value.ownBlock]))
              intro e
              rcases HAt5.out with h9 | ⟨b9, h9, hle⟩
              · rw [h9] at e; simp [Value.ownBlock] at e
              · rw [h9] at e; cases e; omega)
            (fun k hk => Or.inr (by
              rcases hat with h9 | ⟨b9, h9, hle⟩
              · rw [h9] at hk
                rcases HAt5.out with h8 | ⟨b8, h8, hle8⟩
                · rw [h8] at hk; simp [Value.ownBlock] at hk
                · rw [h8] at hk; cases hk; exact hle8
              · rw [h9] at hk; cases hk; exact Nat.le_trans HG5.out.size hle)))
        rw [hvs2] at HStore
        have hw1 : IntKind.i64.wrap ((f : Int) + 1) = (f : Int) + 1 := IntWalk.i64_in _ ⟨by omega, by omega⟩
        have h01 : (0 : Int) ≤ (f : Int) + 1 := by omega
        have htn : ((f : Int) + 1).toNat = f + 1 := by omega
        by_cases hcf : cap = f + 1
        · have HLen := Lib.hid (show (a.L 0).length = f + 1 by omega)
          have hcT : (cap = f + 1) = True := eq_true hcf
          clear hcf
          go_region_law (refine app_rows_step (w0 := w5.drew) base (by rfl) (.tmp 98) (.tmp 107) 48 75 (.agg #[.string { data := #[] }, .int .u64 0]) 2 24 (by rfl) Try.underlying48 info75 rfl (by decide) (by decide) (.slice A5 f c5) f (flat2 ((a.L 0).take f)) ⟨b, 0, none⟩ ((a.L 0).length - (f + 1)) (cap - (f + 1)) (flat2 ((a.L 0).drop (f + 1))) (by first | rfl | (simp [Act.eval, Act.put]; done)) (by first | rfl | (simp [Act.eval, Act.put]; done)) (by rw [flat2_len, List.length_drop]) ?aN (flat2_ones _) ?aO (Below.refl _ _) ?aS (by omega) ?_; (case aN => intro j u hu; rw [List.drop_eq_nil_of_le (by have := HLen.out; omega)] at hu; simp [flat2] at hu); (case aO => have h9 := HOwn5.out; simp only [List.nil_append, Nat.zero_add] at h9; exact h9); (case aS => exact hbase5); intro v6 w6 hown6 _ hg6 hat6; obtain ⟨A6, c6, hv6⟩ := own_len hown6; subst hv6; have HW6 := Lib.hid (HStore.out w6 _ hown6 hg6 hat6); have hc9 : w6.cell? ⟨g, 2, none⟩ = _ := HW6.out.1; have hf9 : w6.frozen? ⟨g, 2, none⟩ = false := HW6.out.2.1; clear hown6 hg6 hat6)
          all_goals
            obtain ⟨F7, ⟨vs7, hv7⟩, hF7, hK7, hB7⟩ := HW6.out.2.2
            have c67 : (w6.setCell ⟨g, 2, none⟩ (.slice A6 (f + ((a.L 0).length - (f + 1))) c6)).cell? ⟨g, 6, none⟩ = some (.int .i64 a.told) := rv_cell hv7 6
            have f67 : (w6.setCell ⟨g, 2, none⟩ (.slice A6 (f + ((a.L 0).length - (f + 1))) c6)).frozen? ⟨g, 6, none⟩ = false := rv_free hv7 6
            have HT7 := Lib.hid (isr_set (w := w6.setCell ⟨g, 2, none⟩ (.slice A6 (f + ((a.L 0).length - (f + 1))) c6)) ⟨vs7, hv7⟩ 6 (.int .i64 (a.told + 1)) (a' := arecv a 0) (fun vs => by rw [HER.out]; rfl) (by rw [HER.out]; rfl))
            have HF7 := Lib.hid hF7
            have HK7 := Lib.hid hK7
            have HB7 := Lib.hid hB7
            clear hv7 hF7 hK7 hB7 HW6 hc9 hf9
            generalize w6.setCell ⟨g, 2, none⟩ (.slice A6 (f + ((a.L 0).length - (f + 1))) c6) = w7 at *
            go_wp2
            go_ret2
            obtain ⟨rfl, rfl, rfl⟩ := HRY.out
            refine ⟨by rw [HT.out]; rfl, ?_⟩
            exact didr_app (w1 := w4) (fun k hk => Or.inl hk) KW.out BW.out (didr_app (w1 := w7) HF7.out HK7.out HB7.out HT7.out)
        · have hcF : (cap = f + 1) = False := eq_false hcf
          clear hcf
          go_region_law (refine app_rows_step (w0 := w5.drew) base (by rfl) (.tmp 98) (.tmp 107) 48 75 (.agg #[.string { data := #[] }, .int .u64 0]) 2 24 (by rfl) Try.underlying48 info75 rfl (by decide) (by decide) (.slice A5 f c5) f (flat2 ((a.L 0).take f)) ⟨b, (f + 1) * 2, none⟩ ((a.L 0).length - (f + 1)) (cap - (f + 1)) (flat2 ((a.L 0).drop (f + 1))) (by first | rfl | (simp [Act.eval, Act.put]; done)) (by first | rfl | (simp [Act.eval, Act.put]; done)) (by rw [flat2_len, List.length_drop]) ?aN (flat2_ones _) ?aO (Below.refl _ _) ?aS (by omega) ?_; (case aN => intro j u hu; refine (World.cell?_of_block ?_).trans (hnw j u hu); rw [show ((⟨b, (f + 1) * 2, none⟩ : Addr).add j).block = b by unfold Addr.add; split <;> rfl]; exact HG5.out.block b (blk_lt hbb) (by simp [Value.ownBlock])); (case aO => have h9 := HOwn5.out; simp only [List.nil_append, Nat.zero_add] at h9; exact h9); (case aS => exact hbase5); intro v6 w6 hown6 _ hg6 hat6; obtain ⟨A6, c6, hv6⟩ := own_len hown6; subst hv6; have HW6 := Lib.hid (HStore.out w6 _ hown6 hg6 hat6); have hc9 : w6.cell? ⟨g, 2, none⟩ = _ := HW6.out.1; have hf9 : w6.frozen? ⟨g, 2, none⟩ = false := HW6.out.2.1; clear hown6 hg6 hat6)
          all_goals
            obtain ⟨F7, ⟨vs7, hv7⟩, hF7, hK7, hB7⟩ := HW6.out.2.2
            have c67 : (w6.setCell ⟨g, 2, none⟩ (.slice A6 (f + ((a.L 0).length - (f + 1))) c6)).cell? ⟨g, 6, none⟩ = some (.int .i64 a.told) := rv_cell hv7 6
            have f67 : (w6.setCell ⟨g, 2, none⟩ (.slice A6 (f + ((a.L 0).length - (f + 1))) c6)).frozen? ⟨g, 6, none⟩ = false := rv_free hv7 6
            have HT7 := Lib.hid (isr_set (w := w6.setCell ⟨g, 2, none⟩ (.slice A6 (f + ((a.L 0).length - (f + 1))) c6)) ⟨vs7, hv7⟩ 6 (.int .i64 (a.told + 1)) (a' := arecv a 0) (fun vs => by rw [HER.out]; rfl) (by rw [HER.out]; rfl))
            have HF7 := Lib.hid hF7
            have HK7 := Lib.hid hK7
            have HB7 := Lib.hid hB7
            clear hv7 hF7 hK7 hB7 HW6 hc9 hf9
            generalize w6.setCell ⟨g, 2, none⟩ (.slice A6 (f + ((a.L 0).length - (f + 1))) c6) = w7 at *
            go_wp2
            go_ret2
            obtain ⟨rfl, rfl, rfl⟩ := HRY.out
            refine ⟨by rw [HT.out]; rfl, ?_⟩
            exact didr_app (w1 := w4) (fun k hk => Or.inl hk) KW.out BW.out (didr_app (w1 := w7) HF7.out HK7.out HB7.out HT7.out)
      · rw [if_neg hr]
        have hrf : aready a 0 = false := by cases hh : aready a 0 <;> simp_all
        have HRF := Lib.hid hrf
        clear hr hrf
        go_wp2
        go_ret2
        obtain ⟨rfl, rfl, rfl⟩ := HRS.out.2 HRF.out
        exact ⟨rfl, didr_drewN ⟨vs, HV.out⟩ _⟩

set_option maxHeartbeats 4000000 in
set_option maxRecDepth 100000 in
theorem r_recv1 (w : World) (base g : Nat) (a : AN) (F : Nat → Prop) (h : IsR w base g a F) (B : Int) (hs : ASmall a B) (hB : B ≤ 100000) (rs : ByteArray) (rb : Bool) (ra : AN)
    (hR : (aready a 1 = true → rs = atop a 1 ∧ rb = true ∧ ra = arecv a 1) ∧ (aready a 1 = false → rs = .empty ∧ rb = false ∧ ra = a)) :
    Calls Try.prog 18 #[.pointer (some ⟨g, 0, none⟩), .int .i64 1] w fun e w' => e = .returned (.tuple #[.string rs, .bool rb]) ∧ DidR w w' base g ra F := by
  have HRS := Lib.hid hR
  clear hR
  obtain ⟨vs, hv⟩ := h
  obtain ⟨ad, cap, hvs⟩ := own_len (hv.2.1 1 (by omega)).1
  have cq : w.cell? ⟨g, 3, none⟩ = some (vs 1) := rv_q hv (o := 1) (by omega)
  rw [hvs] at cq
  have cn : w.cell? ⟨g, 1, none⟩ = some (.int .u64 a.now) := rv_cell hv 1
  have hq := hs.q 1 (by omega)
  have hmm := hs.most
  have HV := Lib.hid hv
  have HS := Lib.hid hs
  have hln : (a.L 1).length ≤ 64 := by omega
  clear hv hs hq
  go_enter Try.func18, Try.ntmps18
  go_wp2
  go_loopw [6, 7] (fun t6 t7 wr => ∃ k : Nat, k ≤ (a.L 1).length ∧ t7 = .int .i64 k ∧ t6 = .int .i64 (rbest (a.L 1) a.now k) ∧ ∃ m, wr = w.drewN m) (fun _ t7 _ => 64 - (intOf t7).toNat)
  case atStart => exact ⟨0, by omega, rfl, rfl, 0, rfl⟩
  case round =>
    obtain ⟨k, hk, rfl, rfl, m, rfl⟩ := hrel
    by_cases hlt : k < (a.L 1).length
    · obtain ⟨b, cap2, hvs2, hcap, hcell⟩ := rv_row HV.out (o := 1) (by omega) hlt
      rw [hvs2] at hvs
      cases hvs
      obtain ⟨x1, x2⟩ := hcell k hlt
      have hsp := rbest_spec (a.L 1) a.now k (by omega)
      have HSp := Lib.hid hsp
      by_cases hd : ((a.L 1).getD k g0).1 ≤ a.now
      · rcases hsp with ⟨e, _⟩ | ⟨p, e, hp, _⟩
        · have hy := step_yes (L := a.L 1) (now := a.now) (i := k) ⟨hd, Or.inl (by omega)⟩
          have HY := Lib.hid hy
          clear hy hcell
          rw [e]
          generalize (a.L 1).getD k g0 = x at *
          go_wp2
          go_quiet (fail)
          go_wp2
          exact ⟨⟨k + 1, by omega, by go_num, by rw [HY.out], _, rfl⟩, by simp [intOf]; omega⟩
        · obtain ⟨y1, y2⟩ := hcell p (by omega)
          have hpn : ¬ ((p : Int) < 0) := by omega
          have hpl : p < (a.L 1).length := by omega
          by_cases hlt2 : ((a.L 1).getD k g0).1 < ((a.L 1).getD p g0).1
          · have hy := step_yes (L := a.L 1) (now := a.now) (i := k) ⟨hd, Or.inr (by rw [e, Int.toNat_natCast]; exact hlt2)⟩
            have HY := Lib.hid hy
            clear hy hcell
            rw [e]
            generalize (a.L 1).getD k g0 = x at *
            generalize (a.L 1).getD p g0 = y at *
            go_wp2
            go_quiet (fail)
            go_wp2
            exact ⟨⟨k + 1, by omega, by go_num, by rw [HY.out], _, rfl⟩, by simp [intOf]; omega⟩
          · have hy := step_no (L := a.L 1) (now := a.now) (i := k) (by rw [e, Int.toNat_natCast]; intro hh; have := hh.2; omega)
            have HY := Lib.hid (hy.trans e)
            clear hy hcell
            rw [e]
            generalize (a.L 1).getD k g0 = x at *
            generalize (a.L 1).getD p g0 = y at *
            go_wp2
            go_quiet (fail)
            go_wp2
            exact ⟨⟨k + 1, by omega, by go_num, by rw [HY.out], _, rfl⟩, by simp [intOf]; omega⟩
      · have hy := step_no (L := a.L 1) (now := a.now) (i := k) (fun hh => hd hh.1)
        have HY := Lib.hid hy
        have hdf : decide (((a.L 1).getD k g0).1 ≤ a.now) = false := decide_eq_false hd
        clear hy hcell hsp
        generalize rbest (a.L 1) a.now k = bb at *
        generalize (a.L 1).getD k g0 = x at *
        go_wp2
        go_quiet (fail)
        go_wp2
        exact ⟨⟨k + 1, by omega, by go_num, by rw [HY.out], _, rfl⟩, by simp [intOf]; omega⟩
    · have hkl : k = (a.L 1).length := by omega
      subst hkl
      rw [rbest_is]
      by_cases hr : aready a 1 = true
      · rw [if_pos hr]
        have hr' := hr
        unfold aready at hr'
        rw [Bool.and_eq_true] at hr'
        have h0 := of_decide_eq_true hr'.1
        obtain ⟨f1, _, _⟩ := fm_spec (a.L 1) h0
        obtain ⟨b, cap2, hvs2, hcap, hcell⟩ := rv_row HV.out (o := 1) (by omega) f1
        rw [hvs2] at hvs
        cases hvs
        obtain ⟨x1, x2⟩ := hcell _ f1
        have HF1 := Lib.hid f1
        have HR := Lib.hid hr
        have HT := Lib.hid (show atop a 1 = ((a.L 1).getD (fm (a.L 1)) g0).2 from rfl)
        have HER := Lib.hid (show arecv a 1 = { a with told := a.told + 1 }.setL 1 ((a.L 1).eraseIdx (fm (a.L 1))) from rfl)
        clear hcell hr hr'
        generalize hf : fm (a.L 1) = f at *
        have hfn : ¬ ((f : Int) < 0) := by omega
        have HRY := Lib.hid (HRS.out.1 HR.out)
        have hwn : IsRV (w.drewN m) base g a F vs := HV.out
        have hbase : base ≤ (w.drewN m).heap.size := Nat.le_trans (hwn.2.2.2.2 g hwn.2.2.2.1).1 (Nat.le_of_lt (rv_lt hwn))
        have hrow := (hwn.2.1 1 (by omega)).1
        have cqm : (w.drewN m).cell? ⟨g, 3, none⟩ = some (.slice (some ⟨b, 0, none⟩) (a.L 1).length cap) := cq
        have x1m : (w.drewN m).cell? ⟨b, f * 2, none⟩ = some (.string ((a.L 1).getD f g0).2) := x1
        have ctm : (w.drewN m).cell? ⟨g, 6, none⟩ = some (.int .i64 a.told) := rv_cell hwn 6
        have hglt : g < (w.drewN m).heap.size := rv_lt hwn
        have HWN := Lib.hid hwn
        rw [hvs2] at hrow
        have HRow := Lib.hid hrow
        have hfl : (f : Int) + 1 ≤ ((a.L 1).length : Int) := by omega
        clear hwn cq x1 x2 cn hrow
        have kW : Kept w (w.drewN m) F := (Kept.refl _ _).drewN m
        have bW : Below base w (w.drewN m) := pw_below_drewN (Below.refl _ _) m
        have KW := Lib.hid kW
        have BW := Lib.hid bW
        clear kW bW
        generalize w.drewN m = w4 at *
        generalize hxx : (a.L 1).getD f g0 = x at *
        go_wp2_with (first | ((with_reducible refine gate_builtin (b := .append) (xs := #[.tmp 86, .tmp 94]) rfl ?_); at_builtin; refine app_rows (w0 := w4) base rfl (.tmp 86) (.tmp 94) 48 75 (.agg #[.string { data := #[] }, .int .u64 0]) 2 24 rfl Try.underlying48 info75 rfl (by decide) (by decide) (.slice none 0 0) 0 [] ⟨b, 0, none⟩ f cap (flat2 ((a.L 1).take f)) rfl rfl ?aL ?aN (flat2_ones _) (World.ownsRow_nil _ _ _ _) (Below.refl _ _) hbase (by omega) ?_; (case aL => rw [flat2_len, List.length_take]; omega); (case aN => intro j u hu; exact HRow.out.cells rfl j u (by rw [← List.take_append_drop f (a.L 1), flat2_append, List.getElem?_append_left (List.getElem?_eq_some_iff.1 hu).1]; exact hu)); intro v5 w5 hown5 hB5 hg5 hat5; have HOwn5 := Lib.hid hown5; have HB5 := Lib.hid hB5; have HG5 := Lib.hid hg5; have HAt5 := Lib.hid hat5; obtain ⟨A5, c5, hv5⟩ := own_len hown5; subst hv5; have cq5 : w5.cell? ⟨g, 3, none⟩ = some (.slice (some ⟨b, 0, none⟩) (a.L 1).length cap) := hg5.cell cqm (by simp [Value.ownBlock]); clear hown5 hB5 hg5 hat5))
        have hglt5 : g < w5.heap.size := Nat.lt_of_lt_of_le hglt HG5.out.size
        simp only [Nat.zero_add] at HAt5
        have ht0 := HS.out.told.1
        have ht1 : a.told < 1000000 := by have := HS.out.told.2; omega
        have hbase5 : base ≤ w5.drew.heap.size := Nat.le_trans hbase HG5.out.size
        obtain ⟨bo, hbb⟩ : ∃ bo, w4.heap[b]? = some bo := by
          rcases HRow.out.2 with ⟨h', _⟩ | ⟨g', cap', cur, hv', _, hh, _⟩
          · cases h'
          · cases hv'; exact ⟨_, hh⟩
        have hnw : ∀ j u, (flat2 ((a.L 1).drop (f + 1)))[j]? = some u → w4.cell? ((⟨b, (f + 1) * 2, none⟩ : Addr).add j) = some u := by
          intro j u hu
          have h9 := HRow.out.cells rfl ((f + 1) * 2 + j) u (by
            rw [← flat2_drop, List.getElem?_drop] at hu
            exact hu)
          have e9 : (⟨b, 0, none⟩ : Addr).add ((f + 1) * 2 + j) = (⟨b, (f + 1) * 2, none⟩ : Addr).add j := by unfold Addr.add; split <;> split <;> simp_all
          rw [← e9]; exact h9
        have HStore := Lib.hid (fun (w6 : World) (v6 : Value) (hown : w6.ownsRow base 75 2 v6 (f + ((a.L 1).length - (f + 1))) (flat2 ((a.L 1).take f) ++ flat2 ((a.L 1).drop (f + 1)))) (hg : w5.drew.grownBy w6 (Value.slice A5 f c5).ownBlock) (hat : v6.ownBlock = (Value.slice A5 f c5).ownBlock ∨ ∃ b, v6.ownBlock = some b ∧ w5.drew.heap.size ≤ b) =>
          isr_store2 (w := w4) (w1 := w6) (v1 := v6) (l := (a.L 1).eraseIdx f) HWN.out (o := 1) (by omega)
            (by rw [List.length_eraseIdx_of_lt HF1.out, List.eraseIdx_eq_take_drop_succ, flat2_append, show (a.L 1).length - 1 = f + ((a.L 1).length - (f + 1)) by have := HF1.out; omega]; exact hown)
            (by
              refine ⟨hg.os.trans HG5.out.os, hg.tape.trans HG5.out.tape, hg.output.trans HG5.out.output, Nat.le_trans HG5.out.size hg.size, fun k hk hn => ?_⟩
              refine (hg.block k (Nat.lt_of_lt_of_le hk HG5.out.size) ?_).trans (HG5.out.block k hk (by simp [Value.ownBlock]))
              intro e
              rcases HAt5.out with h9 | ⟨b9, h9, hle⟩
              · rw [h9] at e; simp [Value.ownBlock] at e
              · rw [h9] at e; cases e; omega)
            (fun k hk => Or.inr (by
              rcases hat with h9 | ⟨b9, h9, hle⟩
              · rw [h9] at hk
                rcases HAt5.out with h8 | ⟨b8, h8, hle8⟩
                · rw [h8] at hk; simp [Value.ownBlock] at hk
                · rw [h8] at hk; cases hk; exact hle8
              · rw [h9] at hk; cases hk; exact Nat.le_trans HG5.out.size hle)))
        rw [hvs2] at HStore
        have hw1 : IntKind.i64.wrap ((f : Int) + 1) = (f : Int) + 1 := IntWalk.i64_in _ ⟨by omega, by omega⟩
        have h01 : (0 : Int) ≤ (f : Int) + 1 := by omega
        have htn : ((f : Int) + 1).toNat = f + 1 := by omega
        by_cases hcf : cap = f + 1
        · have HLen := Lib.hid (show (a.L 1).length = f + 1 by omega)
          have hcT : (cap = f + 1) = True := eq_true hcf
          clear hcf
          go_region_law (refine app_rows_step (w0 := w5.drew) base (by rfl) (.tmp 98) (.tmp 107) 48 75 (.agg #[.string { data := #[] }, .int .u64 0]) 2 24 (by rfl) Try.underlying48 info75 rfl (by decide) (by decide) (.slice A5 f c5) f (flat2 ((a.L 1).take f)) ⟨b, 0, none⟩ ((a.L 1).length - (f + 1)) (cap - (f + 1)) (flat2 ((a.L 1).drop (f + 1))) (by first | rfl | (simp [Act.eval, Act.put]; done)) (by first | rfl | (simp [Act.eval, Act.put]; done)) (by rw [flat2_len, List.length_drop]) ?aN (flat2_ones _) ?aO (Below.refl _ _) ?aS (by omega) ?_; (case aN => intro j u hu; rw [List.drop_eq_nil_of_le (by have := HLen.out; omega)] at hu; simp [flat2] at hu); (case aO => have h9 := HOwn5.out; simp only [List.nil_append, Nat.zero_add] at h9; exact h9); (case aS => exact hbase5); intro v6 w6 hown6 _ hg6 hat6; obtain ⟨A6, c6, hv6⟩ := own_len hown6; subst hv6; have HW6 := Lib.hid (HStore.out w6 _ hown6 hg6 hat6); have hc9 : w6.cell? ⟨g, 3, none⟩ = _ := HW6.out.1; have hf9 : w6.frozen? ⟨g, 3, none⟩ = false := HW6.out.2.1; clear hown6 hg6 hat6)
          all_goals
            obtain ⟨F7, ⟨vs7, hv7⟩, hF7, hK7, hB7⟩ := HW6.out.2.2
            have c67 : (w6.setCell ⟨g, 3, none⟩ (.slice A6 (f + ((a.L 1).length - (f + 1))) c6)).cell? ⟨g, 6, none⟩ = some (.int .i64 a.told) := rv_cell hv7 6
            have f67 : (w6.setCell ⟨g, 3, none⟩ (.slice A6 (f + ((a.L 1).length - (f + 1))) c6)).frozen? ⟨g, 6, none⟩ = false := rv_free hv7 6
            have HT7 := Lib.hid (isr_set (w := w6.setCell ⟨g, 3, none⟩ (.slice A6 (f + ((a.L 1).length - (f + 1))) c6)) ⟨vs7, hv7⟩ 6 (.int .i64 (a.told + 1)) (a' := arecv a 1) (fun vs => by rw [HER.out]; rfl) (by rw [HER.out]; rfl))
            have HF7 := Lib.hid hF7
            have HK7 := Lib.hid hK7
            have HB7 := Lib.hid hB7
            clear hv7 hF7 hK7 hB7 HW6 hc9 hf9
            generalize w6.setCell ⟨g, 3, none⟩ (.slice A6 (f + ((a.L 1).length - (f + 1))) c6) = w7 at *
            go_wp2
            go_ret2
            obtain ⟨rfl, rfl, rfl⟩ := HRY.out
            refine ⟨by rw [HT.out]; rfl, ?_⟩
            exact didr_app (w1 := w4) (fun k hk => Or.inl hk) KW.out BW.out (didr_app (w1 := w7) HF7.out HK7.out HB7.out HT7.out)
        · have hcF : (cap = f + 1) = False := eq_false hcf
          clear hcf
          go_region_law (refine app_rows_step (w0 := w5.drew) base (by rfl) (.tmp 98) (.tmp 107) 48 75 (.agg #[.string { data := #[] }, .int .u64 0]) 2 24 (by rfl) Try.underlying48 info75 rfl (by decide) (by decide) (.slice A5 f c5) f (flat2 ((a.L 1).take f)) ⟨b, (f + 1) * 2, none⟩ ((a.L 1).length - (f + 1)) (cap - (f + 1)) (flat2 ((a.L 1).drop (f + 1))) (by first | rfl | (simp [Act.eval, Act.put]; done)) (by first | rfl | (simp [Act.eval, Act.put]; done)) (by rw [flat2_len, List.length_drop]) ?aN (flat2_ones _) ?aO (Below.refl _ _) ?aS (by omega) ?_; (case aN => intro j u hu; refine (World.cell?_of_block ?_).trans (hnw j u hu); rw [show ((⟨b, (f + 1) * 2, none⟩ : Addr).add j).block = b by unfold Addr.add; split <;> rfl]; exact HG5.out.block b (blk_lt hbb) (by simp [Value.ownBlock])); (case aO => have h9 := HOwn5.out; simp only [List.nil_append, Nat.zero_add] at h9; exact h9); (case aS => exact hbase5); intro v6 w6 hown6 _ hg6 hat6; obtain ⟨A6, c6, hv6⟩ := own_len hown6; subst hv6; have HW6 := Lib.hid (HStore.out w6 _ hown6 hg6 hat6); have hc9 : w6.cell? ⟨g, 3, none⟩ = _ := HW6.out.1; have hf9 : w6.frozen? ⟨g, 3, none⟩ = false := HW6.out.2.1; clear hown6 hg6 hat6)
          all_goals
            obtain ⟨F7, ⟨vs7, hv7⟩, hF7, hK7, hB7⟩ := HW6.out.2.2
            have c67 : (w6.setCell ⟨g, 3, none⟩ (.slice A6 (f + ((a.L 1).length - (f + 1))) c6)).cell? ⟨g, 6, none⟩ = some (.int .i64 a.told) := rv_cell hv7 6
            have f67 : (w6.setCell ⟨g, 3, none⟩ (.slice A6 (f + ((a.L 1).length - (f + 1))) c6)).frozen? ⟨g, 6, none⟩ = false := rv_free hv7 6
            have HT7 := Lib.hid (isr_set (w := w6.setCell ⟨g, 3, none⟩ (.slice A6 (f + ((a.L 1).length - (f + 1))) c6)) ⟨vs7, hv7⟩ 6 (.int .i64 (a.told + 1)) (a' := arecv a 1) (fun vs => by rw [HER.out]; rfl) (by rw [HER.out]; rfl))
            have HF7 := Lib.hid hF7
            have HK7 := Lib.hid hK7
            have HB7 := Lib.hid hB7
            clear hv7 hF7 hK7 hB7 HW6 hc9 hf9
            generalize w6.setCell ⟨g, 3, none⟩ (.slice A6 (f + ((a.L 1).length - (f + 1))) c6) = w7 at *
            go_wp2
            go_ret2
            obtain ⟨rfl, rfl, rfl⟩ := HRY.out
            refine ⟨by rw [HT.out]; rfl, ?_⟩
            exact didr_app (w1 := w4) (fun k hk => Or.inl hk) KW.out BW.out (didr_app (w1 := w7) HF7.out HK7.out HB7.out HT7.out)
      · rw [if_neg hr]
        have hrf : aready a 1 = false := by cases hh : aready a 1 <;> simp_all
        have HRF := Lib.hid hrf
        clear hr hrf
        go_wp2
        go_ret2
        obtain ⟨rfl, rfl, rfl⟩ := HRS.out.2 HRF.out
        exact ⟨rfl, didr_drewN ⟨vs, HV.out⟩ _⟩
end Go.Proofs.Ytjdehmclcdiijaa.Hp
