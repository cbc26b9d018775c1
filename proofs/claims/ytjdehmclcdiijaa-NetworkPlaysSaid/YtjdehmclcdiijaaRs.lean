/- The document's Send. -/
import Derived.Test.YtjdehmclcdiijaaRn
import Derived.Deep.QuietTactic
set_option linter.unusedVariables false
namespace Go.Proofs.Ytjdehmclcdiijaa.Hp
open Go.RowKit Go.Proofs.YtjdehmclcdiijaaW.PrintWords Go.Proofs.YtjdehmclcdiijaaW.PrintLast Go.Proofs.YtjdehmclcdiijaaW.PrintMore

theorem flat2_one (d : DG) : flat2 [d] = [.string d.2, .int .u64 d.1] := rfl
set_option maxHeartbeats 4000000 in
set_option maxRecDepth 100000 in
theorem r_send (w : World) (base g : Nat) (a : AN) (F : Nat → Prop) (h : IsR w base g a F) (B : Int) (hs : ASmall a B) (hB : B ≤ 100000) (hbw : base ≤ w.heap.size) (o : Nat) (ho : o < 2) (bytes : ByteArray) (hl : bytes.size ≤ 4102) (c d : Int) (hc0 : 0 ≤ c) (hc1 : c < 256) (hd0 : 0 ≤ d) (hd1 : d < 256) :
    Calls Try.prog 17 #[.pointer (some ⟨g, 0, none⟩), .int .i64 o, .string bytes, .int .u8 c, .int .u8 d] w fun e w' =>
      e = .returned (.tuple #[.int .i64 (asendS a o bytes c d).2, .int .i64 0]) ∧ DidR w w' base g (asendS a o bytes c d).1 F := by
  have HS := Lib.hid hs
  have HD1 := isr_set h 4 (.int .i64 (a.sent + 1)) (a' := { a with sent := a.sent + 1 }) (fun vs => rfl) rfl
  obtain ⟨vs, hv⟩ := h
  have c4 : w.cell? ⟨g, 4, none⟩ = some (.int .i64 a.sent) := rv_cell hv 4
  have f4 := rv_free hv 4
  have hs0 := hs.sent.1
  have hs1 : a.sent < 1000000 := by have := hs.sent.2; omega
  have hl0 := hs.lost.1
  have hl1 : a.lost < 1000000 := by have := hs.lost.2; omega
  have hgt : (bytes.size : Int) ≤ 4102 := by omega
  have hbg : base ≤ g := (hv.2.2.2.2 g hv.2.2.2.1).1
  have ho2 : (o : Int) = 0 ∨ (o : Int) = 1 := by omega
  -- the world behind the counts
  obtain ⟨w2, hw2, hD2⟩ : ∃ w2, w2 = (if c % 4 = 0 then (w.setCell ⟨g, 4, none⟩ (.int .i64 (a.sent + 1))).setCell ⟨g, 5, none⟩ (.int .i64 (a.lost + 1)) else w.setCell ⟨g, 4, none⟩ (.int .i64 (a.sent + 1))) ∧ DidR w w2 base g (asend1 a c) F := by
    refine ⟨_, rfl, ?_⟩
    obtain ⟨F1, i1, s1, k1, b1⟩ := HD1
    by_cases hc : c % 4 = 0
    · rw [if_pos hc]
      have : asend1 a c = { a with sent := a.sent + 1, lost := a.lost + 1 } := by unfold asend1; rw [if_pos hc]
      rw [this]
      exact didr_app s1 k1 b1 (isr_set i1 5 _ (fun vs => rfl) rfl)
    · rw [if_neg hc]
      have : asend1 a c = { a with sent := a.sent + 1 } := by unfold asend1; rw [if_neg hc]
      rw [this]
      exact ⟨F1, i1, s1, k1, b1⟩
  have HD2 := Lib.hid hD2
  have HSB := Lib.hid (fun k : Nat => asendTo_small (asend1_small hs c) o bytes d k)
  have f5 : w.frozen? ⟨g, 5, none⟩ = false := rv_free hv 5
  have c5 : w.cell? ⟨g, 5, none⟩ = some (.int .i64 a.lost) := rv_cell hv 5
  clear hv HD1 hD2 hs
  obtain ⟨F1, hIR, hF1, hK1, hB1⟩ := HD2.out
  have HIR := Lib.hid hIR
  have HF1 := Lib.hid hF1
  have HK1 := Lib.hid hK1
  have HB1 := Lib.hid hB1
  clear hIR hF1 hK1 hB1 HD2
  have hcc : c % 4 < 4 := by omega
  have hcp : 0 ≤ c % 4 := by omega
  have HW2 := Lib.hid hw2
  clear hw2
  rcases (by omega : o = 0 ∨ o = 1) with rfl | rfl
  · by_cases hc : c % 4 = 0
    · have hc' : (c % 4 == 0) = true := by simp [hc]
      have e9 := HW2.out
      rw [if_pos hc] at e9
      have E9 := Lib.hid e9
      clear e9 HW2
      rw [show ((0 : Nat) : Int) = 0 from rfl]
      go_enter Try.func17, Try.ntmps17
      go_wp2
      rw [← E9.out]
      have hc9 : c % 4 = 0 := hc
      go_loopw [12, 13] (fun t12 t13 wr => ∃ k : Nat, (k : Int) ≤ c % 4 ∧ t13 = .int .i64 k ∧ t12 = .int .i64 (asendTo (asend1 a c) 0 bytes d k).2 ∧ DidR w2 wr base g (asendTo (asend1 a c) 0 bytes d k).1 F1) (fun _ t13 _ => 4 - (intOf t13).toNat)
      case atStart => exact ⟨0, hcp, rfl, rfl, didr_refl HIR.out⟩
      case round =>
        obtain ⟨k, hk, rfl, rfl, hD⟩ := hrel
        have HD := Lib.hid hD
        obtain ⟨F2, ⟨vs2, hv2⟩, hF2, hK2, hB2⟩ := hD
        have hbd := (HSB.out k).1
        have htk := (HSB.out k).2
        have HNX := Lib.hid (show asendTo (asend1 a c) 0 bytes d (k + 1) = if (asendTo (asend1 a c) 0 bytes d k).1.most ≤ (((asendTo (asend1 a c) 0 bytes d k).1.L 0).length : Int) then ({ (asendTo (asend1 a c) 0 bytes d k).1 with lost := (asendTo (asend1 a c) 0 bytes d k).1.lost + 1 }, (asendTo (asend1 a c) 0 bytes d k).2)
          else ({ (asendTo (asend1 a c) 0 bytes d k).1 with put := (asendTo (asend1 a c) 0 bytes d k).1.put + 1 }.setL 0 ((asendTo (asend1 a c) 0 bytes d k).1.L 0 ++ [((asendTo (asend1 a c) 0 bytes d k).1.now + d % 8 + k, bytes)]), (asendTo (asend1 a c) 0 bytes d k).2 + 1) from rfl)
        have hk4 : (k : Int) < 4 := by omega
        by_cases hlt : (k : Int) < c % 4
        · exfalso; omega
        · have hkc : (c % 4).toNat = k := by omega
          have e2 : asendS a 0 bytes c d = asendTo (asend1 a c) 0 bytes d k := by unfold asendS; rw [hkc]
          go_wp2
          go_ret2
          first | rw [e2] | skip
          exact ⟨rfl, didr_app HF1.out HK1.out HB1.out HD.out⟩
    · have hc' : (c % 4 == 0) = false := by simp [hc]
      have e9 := HW2.out
      rw [if_neg hc] at e9
      have E9 := Lib.hid e9
      clear e9 HW2
      rw [show ((0 : Nat) : Int) = 0 from rfl]
      go_enter Try.func17, Try.ntmps17
      go_wp2
      rw [← E9.out]
      go_loopw [12, 13] (fun t12 t13 wr => ∃ k : Nat, (k : Int) ≤ c % 4 ∧ t13 = .int .i64 k ∧ t12 = .int .i64 (asendTo (asend1 a c) 0 bytes d k).2 ∧ DidR w2 wr base g (asendTo (asend1 a c) 0 bytes d k).1 F1) (fun _ t13 _ => 4 - (intOf t13).toNat)
      case atStart => exact ⟨0, hcp, rfl, rfl, didr_refl HIR.out⟩
      case round =>
        obtain ⟨k, hk, rfl, rfl, hD⟩ := hrel
        have HD := Lib.hid hD
        obtain ⟨F2, ⟨vs2, hv2⟩, hF2, hK2, hB2⟩ := hD
        have hbd := (HSB.out k).1
        have htk := (HSB.out k).2
        have HNX := Lib.hid (show asendTo (asend1 a c) 0 bytes d (k + 1) = if (asendTo (asend1 a c) 0 bytes d k).1.most ≤ (((asendTo (asend1 a c) 0 bytes d k).1.L 0).length : Int) then ({ (asendTo (asend1 a c) 0 bytes d k).1 with lost := (asendTo (asend1 a c) 0 bytes d k).1.lost + 1 }, (asendTo (asend1 a c) 0 bytes d k).2)
          else ({ (asendTo (asend1 a c) 0 bytes d k).1 with put := (asendTo (asend1 a c) 0 bytes d k).1.put + 1 }.setL 0 ((asendTo (asend1 a c) 0 bytes d k).1.L 0 ++ [((asendTo (asend1 a c) 0 bytes d k).1.now + d % 8 + k, bytes)]), (asendTo (asend1 a c) 0 bytes d k).2 + 1) from rfl)
        have hk4 : (k : Int) < 4 := by omega
        by_cases hlt : (k : Int) < c % 4
        · generalize hst : asendTo (asend1 a c) 0 bytes d k = st at *
          obtain ⟨ad, cap, hvs⟩ := own_len (hv2.2.1 0 (by omega)).1
          have cq : wr.cell? ⟨g, 2, none⟩ = some (vs2 0) := rv_q hv2 (o := 0) (by omega)
          rw [hvs] at cq
          have cm : wr.cell? ⟨g, 0, none⟩ = some (.int .i64 st.1.most) := rv_cell hv2 0
          have cn : wr.cell? ⟨g, 1, none⟩ = some (.int .u64 st.1.now) := rv_cell hv2 1
          have cl : wr.cell? ⟨g, 5, none⟩ = some (.int .i64 st.1.lost) := rv_cell hv2 5
          have fl : wr.frozen? ⟨g, 5, none⟩ = false := rv_free hv2 5
          have hql := hbd.q 0 (by omega)
          have hml := hbd.most
          have hn0 := hbd.now.1
          have hn1 : st.1.now < 1000000 := by have := hbd.now.2; omega
          have hlo0 := hbd.lost.1
          have hlo1 : st.1.lost < 1000000 := by have := hbd.lost.2; omega
          have HV2 := Lib.hid hv2
          have HF2 := Lib.hid hF2
          have HK2 := Lib.hid hK2
          have HB2 := Lib.hid hB2
          have HST := Lib.hid hst
          clear hv2 hF2 hK2 hB2 hst hbd
          by_cases hfull : st.1.most ≤ ((st.1.L 0).length : Int)
          · have HD3 := Lib.hid (fun n => isr_set (w := wr.drewN n) ⟨vs2, HV2.out⟩ 5 (.int .i64 (st.1.lost + 1)) (a' := { st.1 with lost := st.1.lost + 1 }) (fun vs => rfl) rfl)
            rw [if_pos hfull] at HNX
            go_wp2
            go_quiet (fail)
            go_wp2
            refine ⟨⟨k + 1, by omega, by go_num, by rw [HNX.out], ?_⟩, by simp [intOf]; omega⟩
            rw [HNX.out]
            exact didr_app (w1 := wr.drewN nq) HF2.out (HK2.out.drewN nq) (pw_below_drewN HB2.out nq) (HD3.out nq)
          · rw [if_neg hfull] at HNX
            go_wp2
            go_quiet (fail)
            go_wp2
            have HV4 : IsRV (wr.drewN nq) base g st.1 F2 vs2 := HV2.out
            have k4 := HK2.out.drewN nq
            have b4 := pw_below_drewN HB2.out nq
            have q1 : (wr.drewN nq).cell? ⟨g, 2, none⟩ = some (.slice ad (st.1.L 0).length cap) := cq
            have q2 : (wr.drewN nq).cell? ⟨g, 1, none⟩ = some (.int .u64 st.1.now) := cn
            clear HV2 HK2 HB2 cq cm cn cl fl HD
            generalize wr.drewN nq = w4 at *
            have hbase : base ≤ w4.drew.heap.size := Nat.le_trans hbg (Nat.le_of_lt (rv_lt HV4))
            have hglt : g < w4.heap.size := rv_lt HV4
            have HO := (HV4.2.1 0 (by omega)).1
            rw [hvs] at HO
            have HO := Lib.hid HO
            have HLl := Lib.hid (show ((st.1.L 0).length + 1) * 24 ≤ 140737488355328 by omega)
            have hdue : IntKind.u64.wrap (IntKind.u64.wrap (st.1.now + IntKind.u64.wrap (d.tmod 8)) + IntKind.u64.wrap (k : Int)) = st.1.now + d % 8 + k := by
              have W : ∀ n : Int, 0 ≤ n → n < 18446744073709551616 → IntKind.u64.wrap n = n := fun n x y => IntWalk.u64_in n ⟨x, by omega⟩
              rw [Int.tmod_eq_emod_of_nonneg hd0, W (d % 8) (by omega) (by omega), W (st.1.now + d % 8) (by omega) (by omega), W (k : Int) (by omega) (by omega), W _ (by omega) (by omega)]
            have HStore := Lib.hid (fun (w5 : World) (v5 : Value) (hown : w5.ownsRow base 75 2 v5 ((st.1.L 0).length + 1) (flat2 (st.1.L 0) ++ [.string bytes, .int .u64 (IntKind.u64.wrap (IntKind.u64.wrap (st.1.now + IntKind.u64.wrap (d.tmod 8)) + IntKind.u64.wrap (k : Int)))])) (hg : w4.drew.grownBy w5 (vs2 0).ownBlock) (hat : v5.ownBlock = (vs2 0).ownBlock ∨ ∃ b, v5.ownBlock = some b ∧ w4.drew.heap.size ≤ b) => isr_store (w := w4.drew) (w1 := w5) (v1 := v5) (l := st.1.L 0 ++ [(st.1.now + d % 8 + k, bytes)]) HV4 (o := 0) (by omega) (by rw [flat2_append, flat2_one, List.length_append]; rw [hdue] at hown; exact hown) hg hat)
            rw [hvs] at HStore
            have HDUE := Lib.hid hdue
            have HV4' := Lib.hid HV4
            have K4 := Lib.hid k4
            have B4 := Lib.hid b4
            clear hdue HV4 k4 b4
            go_region_law (rw [alloc_drew]; refine step_append_cells (w0 := w4.drew) base (by rfl) (.tmp 75) (.tmp 89) 48 75 (.agg #[.string { data := #[] }, .int .u64 0]) 2 24 (by rfl) Try.underlying48 info75 rfl (by decide) (by decide) (.slice ad (st.1.L 0).length cap) (st.1.L 0).length (flat2 (st.1.L 0)) [.string bytes, .int .u64 (IntKind.u64.wrap (IntKind.u64.wrap (st.1.now + IntKind.u64.wrap (d.tmod 8)) + IntKind.u64.wrap (k : Int)))] (by simp [Act.eval]) (by simp [Act.eval]) rfl (by intro u hu; simp at hu; rcases hu with rfl | rfl <;> rfl) (by exact HO.out) (Below.refl _ _) (by exact hbase) HLl.out ?_; intro v5 w5 hown5 _ hg5 hat5; obtain ⟨g5, cap5, rfl⟩ := own_shape hown5; have HW5 := Lib.hid (HStore.out w5 _ hown5 hg5 hat5); have hc9 : w5.cell? ⟨g, 2, none⟩ = _ := HW5.out.1; have hf9 : w5.frozen? ⟨g, 2, none⟩ = false := HW5.out.2.1; clear hown5 hg5 hat5)
            all_goals go_wp2
            all_goals
              refine ⟨⟨k + 1, by omega, by go_num, by rw [HNX.out], ?_⟩, by simp [intOf]; omega⟩
              rw [HNX.out]
              exact didr_app (w1 := w4.drew) HF2.out K4.out.drew B4.out.drew HW5.out.2.2
        · have hkc : (c % 4).toNat = k := by omega
          have e2 : asendS a 0 bytes c d = asendTo (asend1 a c) 0 bytes d k := by unfold asendS; rw [hkc]
          go_wp2
          go_ret2
          first | rw [e2] | skip
          exact ⟨rfl, didr_app HF1.out HK1.out HB1.out HD.out⟩
  · by_cases hc : c % 4 = 0
    · have hc' : (c % 4 == 0) = true := by simp [hc]
      have e9 := HW2.out
      rw [if_pos hc] at e9
      have E9 := Lib.hid e9
      clear e9 HW2
      rw [show ((1 : Nat) : Int) = 1 from rfl]
      go_enter Try.func17, Try.ntmps17
      go_wp2
      rw [← E9.out]
      have hc9 : c % 4 = 0 := hc
      go_loopw [12, 13] (fun t12 t13 wr => ∃ k : Nat, (k : Int) ≤ c % 4 ∧ t13 = .int .i64 k ∧ t12 = .int .i64 (asendTo (asend1 a c) 1 bytes d k).2 ∧ DidR w2 wr base g (asendTo (asend1 a c) 1 bytes d k).1 F1) (fun _ t13 _ => 4 - (intOf t13).toNat)
      case atStart => exact ⟨0, hcp, rfl, rfl, didr_refl HIR.out⟩
      case round =>
        obtain ⟨k, hk, rfl, rfl, hD⟩ := hrel
        have HD := Lib.hid hD
        obtain ⟨F2, ⟨vs2, hv2⟩, hF2, hK2, hB2⟩ := hD
        have hbd := (HSB.out k).1
        have htk := (HSB.out k).2
        have HNX := Lib.hid (show asendTo (asend1 a c) 1 bytes d (k + 1) = if (asendTo (asend1 a c) 1 bytes d k).1.most ≤ (((asendTo (asend1 a c) 1 bytes d k).1.L 1).length : Int) then ({ (asendTo (asend1 a c) 1 bytes d k).1 with lost := (asendTo (asend1 a c) 1 bytes d k).1.lost + 1 }, (asendTo (asend1 a c) 1 bytes d k).2)
          else ({ (asendTo (asend1 a c) 1 bytes d k).1 with put := (asendTo (asend1 a c) 1 bytes d k).1.put + 1 }.setL 1 ((asendTo (asend1 a c) 1 bytes d k).1.L 1 ++ [((asendTo (asend1 a c) 1 bytes d k).1.now + d % 8 + k, bytes)]), (asendTo (asend1 a c) 1 bytes d k).2 + 1) from rfl)
        have hk4 : (k : Int) < 4 := by omega
        by_cases hlt : (k : Int) < c % 4
        · exfalso; omega
        · have hkc : (c % 4).toNat = k := by omega
          have e2 : asendS a 1 bytes c d = asendTo (asend1 a c) 1 bytes d k := by unfold asendS; rw [hkc]
          go_wp2
          go_ret2
          first | rw [e2] | skip
          exact ⟨rfl, didr_app HF1.out HK1.out HB1.out HD.out⟩
    · have hc' : (c % 4 == 0) = false := by simp [hc]
      have e9 := HW2.out
      rw [if_neg hc] at e9
      have E9 := Lib.hid e9
      clear e9 HW2
      rw [show ((1 : Nat) : Int) = 1 from rfl]
      go_enter Try.func17, Try.ntmps17
      go_wp2
      rw [← E9.out]
      go_loopw [12, 13] (fun t12 t13 wr => ∃ k : Nat, (k : Int) ≤ c % 4 ∧ t13 = .int .i64 k ∧ t12 = .int .i64 (asendTo (asend1 a c) 1 bytes d k).2 ∧ DidR w2 wr base g (asendTo (asend1 a c) 1 bytes d k).1 F1) (fun _ t13 _ => 4 - (intOf t13).toNat)
      case atStart => exact ⟨0, hcp, rfl, rfl, didr_refl HIR.out⟩
      case round =>
        obtain ⟨k, hk, rfl, rfl, hD⟩ := hrel
        have HD := Lib.hid hD
        obtain ⟨F2, ⟨vs2, hv2⟩, hF2, hK2, hB2⟩ := hD
        have hbd := (HSB.out k).1
        have htk := (HSB.out k).2
        have HNX := Lib.hid (show asendTo (asend1 a c) 1 bytes d (k + 1) = if (asendTo (asend1 a c) 1 bytes d k).1.most ≤ (((asendTo (asend1 a c) 1 bytes d k).1.L 1).length : Int) then ({ (asendTo (asend1 a c) 1 bytes d k).1 with lost := (asendTo (asend1 a c) 1 bytes d k).1.lost + 1 }, (asendTo (asend1 a c) 1 bytes d k).2)
          else ({ (asendTo (asend1 a c) 1 bytes d k).1 with put := (asendTo (asend1 a c) 1 bytes d k).1.put + 1 }.setL 1 ((asendTo (asend1 a c) 1 bytes d k).1.L 1 ++ [((asendTo (asend1 a c) 1 bytes d k).1.now + d % 8 + k, bytes)]), (asendTo (asend1 a c) 1 bytes d k).2 + 1) from rfl)
        have hk4 : (k : Int) < 4 := by omega
        by_cases hlt : (k : Int) < c % 4
        · generalize hst : asendTo (asend1 a c) 1 bytes d k = st at *
          obtain ⟨ad, cap, hvs⟩ := own_len (hv2.2.1 1 (by omega)).1
          have cq : wr.cell? ⟨g, 3, none⟩ = some (vs2 1) := rv_q hv2 (o := 1) (by omega)
          rw [hvs] at cq
          have cm : wr.cell? ⟨g, 0, none⟩ = some (.int .i64 st.1.most) := rv_cell hv2 0
          have cn : wr.cell? ⟨g, 1, none⟩ = some (.int .u64 st.1.now) := rv_cell hv2 1
          have cl : wr.cell? ⟨g, 5, none⟩ = some (.int .i64 st.1.lost) := rv_cell hv2 5
          have fl : wr.frozen? ⟨g, 5, none⟩ = false := rv_free hv2 5
          have hql := hbd.q 1 (by omega)
          have hml := hbd.most
          have hn0 := hbd.now.1
          have hn1 : st.1.now < 1000000 := by have := hbd.now.2; omega
          have hlo0 := hbd.lost.1
          have hlo1 : st.1.lost < 1000000 := by have := hbd.lost.2; omega
          have HV2 := Lib.hid hv2
          have HF2 := Lib.hid hF2
          have HK2 := Lib.hid hK2
          have HB2 := Lib.hid hB2
          have HST := Lib.hid hst
          clear hv2 hF2 hK2 hB2 hst hbd
          by_cases hfull : st.1.most ≤ ((st.1.L 1).length : Int)
          · have HD3 := Lib.hid (fun n => isr_set (w := wr.drewN n) ⟨vs2, HV2.out⟩ 5 (.int .i64 (st.1.lost + 1)) (a' := { st.1 with lost := st.1.lost + 1 }) (fun vs => rfl) rfl)
            rw [if_pos hfull] at HNX
            go_wp2
            go_quiet (fail)
            go_wp2
            refine ⟨⟨k + 1, by omega, by go_num, by rw [HNX.out], ?_⟩, by simp [intOf]; omega⟩
            rw [HNX.out]
            exact didr_app (w1 := wr.drewN nq) HF2.out (HK2.out.drewN nq) (pw_below_drewN HB2.out nq) (HD3.out nq)
          · rw [if_neg hfull] at HNX
            go_wp2
            go_quiet (fail)
            go_wp2
            have HV4 : IsRV (wr.drewN nq) base g st.1 F2 vs2 := HV2.out
            have k4 := HK2.out.drewN nq
            have b4 := pw_below_drewN HB2.out nq
            have q1 : (wr.drewN nq).cell? ⟨g, 3, none⟩ = some (.slice ad (st.1.L 1).length cap) := cq
            have q2 : (wr.drewN nq).cell? ⟨g, 1, none⟩ = some (.int .u64 st.1.now) := cn
            clear HV2 HK2 HB2 cq cm cn cl fl HD
            generalize wr.drewN nq = w4 at *
            have hbase : base ≤ w4.drew.heap.size := Nat.le_trans hbg (Nat.le_of_lt (rv_lt HV4))
            have hglt : g < w4.heap.size := rv_lt HV4
            have HO := (HV4.2.1 1 (by omega)).1
            rw [hvs] at HO
            have HO := Lib.hid HO
            have HLl := Lib.hid (show ((st.1.L 1).length + 1) * 24 ≤ 140737488355328 by omega)
            have hdue : IntKind.u64.wrap (IntKind.u64.wrap (st.1.now + IntKind.u64.wrap (d.tmod 8)) + IntKind.u64.wrap (k : Int)) = st.1.now + d % 8 + k := by
              have W : ∀ n : Int, 0 ≤ n → n < 18446744073709551616 → IntKind.u64.wrap n = n := fun n x y => IntWalk.u64_in n ⟨x, by omega⟩
              rw [Int.tmod_eq_emod_of_nonneg hd0, W (d % 8) (by omega) (by omega), W (st.1.now + d % 8) (by omega) (by omega), W (k : Int) (by omega) (by omega), W _ (by omega) (by omega)]
            have HStore := Lib.hid (fun (w5 : World) (v5 : Value) (hown : w5.ownsRow base 75 2 v5 ((st.1.L 1).length + 1) (flat2 (st.1.L 1) ++ [.string bytes, .int .u64 (IntKind.u64.wrap (IntKind.u64.wrap (st.1.now + IntKind.u64.wrap (d.tmod 8)) + IntKind.u64.wrap (k : Int)))])) (hg : w4.drew.grownBy w5 (vs2 1).ownBlock) (hat : v5.ownBlock = (vs2 1).ownBlock ∨ ∃ b, v5.ownBlock = some b ∧ w4.drew.heap.size ≤ b) => isr_store (w := w4.drew) (w1 := w5) (v1 := v5) (l := st.1.L 1 ++ [(st.1.now + d % 8 + k, bytes)]) HV4 (o := 1) (by omega) (by rw [flat2_append, flat2_one, List.length_append]; rw [hdue] at hown; exact hown) hg hat)
            rw [hvs] at HStore
            have HDUE := Lib.hid hdue
            have HV4' := Lib.hid HV4
            have K4 := Lib.hid k4
            have B4 := Lib.hid b4
            clear hdue HV4 k4 b4
            go_region_law (rw [alloc_drew]; refine step_append_cells (w0 := w4.drew) base (by rfl) (.tmp 75) (.tmp 89) 48 75 (.agg #[.string { data := #[] }, .int .u64 0]) 2 24 (by rfl) Try.underlying48 info75 rfl (by decide) (by decide) (.slice ad (st.1.L 1).length cap) (st.1.L 1).length (flat2 (st.1.L 1)) [.string bytes, .int .u64 (IntKind.u64.wrap (IntKind.u64.wrap (st.1.now + IntKind.u64.wrap (d.tmod 8)) + IntKind.u64.wrap (k : Int)))] (by simp [Act.eval]) (by simp [Act.eval]) rfl (by intro u hu; simp at hu; rcases hu with rfl | rfl <;> rfl) (by exact HO.out) (Below.refl _ _) (by exact hbase) HLl.out ?_; intro v5 w5 hown5 _ hg5 hat5; obtain ⟨g5, cap5, rfl⟩ := own_shape hown5; have HW5 := Lib.hid (HStore.out w5 _ hown5 hg5 hat5); have hc9 : w5.cell? ⟨g, 3, none⟩ = _ := HW5.out.1; have hf9 : w5.frozen? ⟨g, 3, none⟩ = false := HW5.out.2.1; clear hown5 hg5 hat5)
            all_goals go_wp2
            all_goals
              refine ⟨⟨k + 1, by omega, by go_num, by rw [HNX.out], ?_⟩, by simp [intOf]; omega⟩
              rw [HNX.out]
              exact didr_app (w1 := w4.drew) HF2.out K4.out.drew B4.out.drew HW5.out.2.2
        · have hkc : (c % 4).toNat = k := by omega
          have e2 : asendS a 1 bytes c d = asendTo (asend1 a c) 1 bytes d k := by unfold asendS; rw [hkc]
          go_wp2
          go_ret2
          first | rw [e2] | skip
          exact ⟨rfl, didr_app HF1.out HK1.out HB1.out HD.out⟩
end Go.Proofs.Ytjdehmclcdiijaa.Hp
