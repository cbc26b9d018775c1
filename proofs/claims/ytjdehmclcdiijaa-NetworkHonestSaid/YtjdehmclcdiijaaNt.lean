/- The network's Send. -/
import Derived.Test.YtjdehmclcdiijaaNs
import Derived.Deep.RegionHeld
import Derived.Deep.QuietTactic
set_option linter.unusedVariables false
namespace Go.Proofs.Ytjdehmclcdiijaa.Hp
open Go.RowKit Go.Proofs.YtjdehmclcdiijaaW.PrintWords Go.Proofs.YtjdehmclcdiijaaW.PrintLast Go.Proofs.YtjdehmclcdiijaaW.PrintMore

theorem did_app {w w1 w2 : World} {base g : Nat} {s : NS} {F F1 : Nat → Prop} (h2 : ∀ k, F1 k → F k ∨ w.heap.size ≤ k) (h3 : Kept w w1 F) (h4 : Below base w w1) (k : Did w1 w2 base g s F1) : Did w w2 base g s F := by
  obtain ⟨F2, k1, k2, k3, k4⟩ := k
  refine ⟨F2, k1, fun i hi => ?_, h3.then_ k3 h2, h4.trans k4⟩
  rcases k2 i hi with h | h
  · exact h2 i h
  · exact Or.inr (Nat.le_trans h3.1 h)
theorem send_noway (w : World) (base g : Nat) (s : NS) (F : Nat → Prop) (h : IsN w base g s F) (hm : 0 < s.most) (way : Int) (hway : ¬ (0 ≤ way ∧ way < 2)) (bytes : ByteArray) (c d : Int) :
    Calls Try.prog 10 #[.pointer (some ⟨g, 0, none⟩), .int .i64 way, .string bytes, .agg #[.int .u8 c, .int .u8 d]] w fun e w' => e = .returned (.tuple #[.int .i64 0, .int .i64 2]) ∧ ∃ o, w' = w.alloc o := by
  obtain ⟨vs, hv⟩ := h
  have hlt := isv_lt hv
  have c0 : ∀ o, (w.alloc o).cell? ⟨g, 0, none⟩ = some (.int .i64 s.most) := fun o => (World.cell?_alloc_past o g 0 hlt).trans (isv_cell hv 0)
  have HI := Lib.hid (fun o => is_calls (w.alloc o) g s.most (c0 o))
  have HM := Lib.hid (fun o => may_calls (w.alloc o) g s.most way (c0 o))
  have e1 : mayB s.most way = false := by
    unfold mayB
    by_cases h0 : 0 ≤ way
    · rw [decide_eq_false (p := way < 2) (by omega), Bool.and_false]
    · rw [decide_eq_false h0, Bool.and_false, Bool.false_and]
  simp only [e1, decide_eq_true hm] at HI HM
  clear hv c0 e1 hway
  go_enter Try.func10, Try.ntmps10
  go_wp2_with fail
  refine (HI.out _).mono ?_
  rintro e w2 ⟨rfl, rfl⟩
  go_wp2_with fail
  refine (HM.out _).mono ?_
  rintro e w2 ⟨rfl, rfl⟩
  go_wp2
  go_ret2
  exact ⟨rfl, _, rfl⟩
theorem send_long (w : World) (base g : Nat) (s : NS) (F : Nat → Prop) (h : IsN w base g s F) (hm : 0 < s.most) (way : Int) (hway : 0 ≤ way ∧ way < 2) (bytes : ByteArray) (hl : 4102 < bytes.size) (c d : Int) :
    Calls Try.prog 10 #[.pointer (some ⟨g, 0, none⟩), .int .i64 way, .string bytes, .agg #[.int .u8 c, .int .u8 d]] w fun e w' => e = .returned (.tuple #[.int .i64 0, .int .i64 3]) ∧ ∃ o, w' = w.alloc o := by
  obtain ⟨vs, hv⟩ := h
  have hlt := isv_lt hv
  have c0 : ∀ o, (w.alloc o).cell? ⟨g, 0, none⟩ = some (.int .i64 s.most) := fun o => (World.cell?_alloc_past o g 0 hlt).trans (isv_cell hv 0)
  have HI := Lib.hid (fun o => is_calls (w.alloc o) g s.most (c0 o))
  have HM := Lib.hid (fun o => may_calls (w.alloc o) g s.most way (c0 o))
  have e1 : mayB s.most way = true := by unfold mayB; rw [decide_eq_true hm, decide_eq_true hway.1, decide_eq_true hway.2]; rfl
  simp only [e1, decide_eq_true hm] at HI HM
  have hgt : ¬ ((bytes.size : Int) ≤ 4102) := by omega
  clear hv c0 e1 hway
  go_enter Try.func10, Try.ntmps10
  go_wp2_with fail
  refine (HI.out _).mono ?_
  rintro e w2 ⟨rfl, rfl⟩
  go_wp2_with fail
  refine (HM.out _).mono ?_
  rintro e w2 ⟨rfl, rfl⟩
  go_wp2
  go_ret2
  exact ⟨rfl, _, rfl⟩

set_option maxHeartbeats 2000000 in
theorem send_calls (w : World) (base g : Nat) (s : NS) (F : Nat → Prop) (h : IsN w base g s F) (B : Int) (hs : Small s B) (hB : B ≤ 100000) (hbw : base ≤ w.heap.size) (o : Nat) (ho : o < 2) (bytes : ByteArray) (hl : bytes.size ≤ 4102) (c d : Int) (hc0 : 0 ≤ c) (hc1 : c < 256) (hd0 : 0 ≤ d) (hd1 : d < 256) :
    Calls Try.prog 10 #[.pointer (some ⟨g, 0, none⟩), .int .i64 o, .string bytes, .agg #[.int .u8 c, .int .u8 d]] w fun e w' =>
      e = .returned (.tuple #[.int .i64 (sendS s o bytes c d).2, .int .i64 0]) ∧ Did w w' base g (sendS s o bytes c d).1 F := by
  have hn0 : IsN (w.alloc (.cells #[.int .u8 c, .int .u8 d] 28)) base g s F := isn_kept h ((Kept.refl w (fun _ => False)).alloc _) (fun _ _ hf => hf)
  have HS := Lib.hid hs
  -- behind the count of what is sent
  have HD1 := Lib.hid (isn_set hn0 5 (.int .i64 (s.sent + 1)) (s' := { s with sent := s.sent + 1 }) (fun vs => rfl) rfl)
  have hm := hs.most0
  have hFB : ¬ F w.heap.size := by
    obtain ⟨vs, hv⟩ := h
    intro hf
    have := (hv.2.2.2.2 _ hf).2
    omega
  obtain ⟨vs, hv⟩ := hn0
  have HI := Lib.hid (is_calls _ g s.most (isv_cell hv 0))
  have HM := Lib.hid (may_calls _ g s.most o (isv_cell hv 0))
  have e1 : mayB s.most o = true := by unfold mayB; rw [decide_eq_true hm, decide_eq_true (by omega : (0 : Int) ≤ o), decide_eq_true (by omega : (o : Int) < 2)]; rfl
  rw [e1] at HM
  rw [decide_eq_true hm] at HI
  have HA := Lib.hid (add_calls _ g 5 s.sent (isv_cell hv 5) (isv_free hv 5) hs.sent.1 (by have := hs.sent.2; omega))
  have hgt : (bytes.size : Int) ≤ 4102 := by omega
  clear hv e1 hs
  have HH := Lib.hid h
  clear h
  go_enter Try.func10, Try.ntmps10
  go_wp2_with fail
  refine (HI.out).mono ?_
  rintro e w2 ⟨rfl, rfl⟩
  go_wp2_with fail
  refine (HM.out).mono ?_
  rintro e w2 ⟨rfl, rfl⟩
  go_wp2_with fail
  refine (HA.out).mono ?_
  rintro e w2 ⟨rfl, hw2⟩
  have hD1 := HD1.out
  rw [← hw2] at hD1
  obtain ⟨F1, ⟨vs1, hv1⟩, hF1, hK1, hB1⟩ := hD1
  have hd0' : (w.alloc (.cells #[.int .u8 c, .int .u8 d] 28)).heap[w.heap.size]? = some (.cells #[.int .u8 c, .int .u8 d] 28) := heap_alloc_new w _
  have hblk : w2.heap[w.heap.size]? = some (.cells #[.int .u8 c, .int .u8 d] 28) := (hK1.2 _ (by simp) hFB).trans hd0'
  have fc0 : w2.cell? ⟨w.heap.size, 0, none⟩ = some (.int .u8 c) := (cell_of_row _ _ 0 _ 28 (0, 0) hblk).trans rfl
  have HV1 := Lib.hid hv1
  have HF1 := Lib.hid hF1
  have HK1 := Lib.hid hK1
  have HB1 := Lib.hid hB1
  have HA2 := Lib.hid (add_calls _ g 6 s.lost (isv_cell hv1 6) (isv_free hv1 6) HS.out.lost.1 (by have := HS.out.lost.2; omega))
  have HD2 := Lib.hid (isn_set ⟨vs1, hv1⟩ 6 (.int .i64 (s.lost + 1)) (s' := { s with sent := s.sent + 1, lost := s.lost + 1 }) (fun vs => rfl) rfl)
  have HBK := Lib.hid hblk
  have hbg : base ≤ g := (hv1.2.2.2.2 g hv1.2.2.2.1).1
  clear hw2 HD1 hd0' hblk hv1 hF1 hK1 hB1
  have HW := Lib.hid (fun (s' : NS) (w' : World) (k : Did w2 w' base g s' F1) => did_from (w := w) (F := F) ((Kept.refl w _).alloc _) ((Below.refl base w).alloc hbw _) (did_app HF1.out HK1.out HB1.out k))
  by_cases hc : c % 4 = 0
  · have hc' : (c % 4 == 0) = true := by simp [hc]
    have e1 : sendS s o bytes c d = (({ s with sent := s.sent + 1, lost := s.lost + 1 } : NS), 0) := by unfold sendS send1; rw [hc, if_pos rfl]; rfl
    go_wp2_with fail
    refine (HA2.out).mono ?_
    rintro e w3 ⟨rfl, hw3⟩
    have hD2 := HD2.out
    rw [← hw3] at hD2
    have HD3 := Lib.hid hD2
    clear hw3 hD2
    go_wp2
    refine wp_loop_rounds 1 ?_
    rw [rounds_succ]
    go_wp2
    go_ret2
    rw [e1]
    exact ⟨rfl, HW.out _ _ HD3.out⟩
  · have hc' : (c % 4 == 0) = false := by simp [hc]
    have e1 : send1 s c = { s with sent := s.sent + 1 } := by unfold send1; rw [if_neg hc]
    have hIN : IsN w2 base g (send1 s c) F1 := by rw [e1]; exact ⟨vs1, HV1.out⟩
    have HIN := Lib.hid hIN
    have HSB := Lib.hid (fun k : Nat => sendTo_small (send1_small HS.out c) o ho bytes d k)
    have hFB1 : ¬ F1 w.heap.size := by
      intro hf
      rcases HF1.out _ hf with h | h
      · exact hFB h
      · simp at h; omega
    clear hIN e1
    have hcc : c % 4 < 4 := by omega
    have hcp : 0 ≤ c % 4 := by omega
    generalize hcn : c % 4 = cn at *
    go_wp2
    go_loopw [8, 40] (fun t8 t40 wr => ∃ k : Nat, (k : Int) ≤ cn ∧ t40 = .int .i64 k ∧ t8 = .int .i64 (sendTo (send1 s c) o bytes d k).2 ∧ Did w2 wr base g (sendTo (send1 s c) o bytes d k).1 F1) (fun _ t40 _ => 4 - (intOf t40).toNat)
    case atStart => exact ⟨0, hcp, rfl, rfl, did_refl HIN.out⟩
    case round =>
      obtain ⟨k, hk, rfl, rfl, hD⟩ := hrel
      have HD := Lib.hid hD
      obtain ⟨F2, ⟨vs2, hv2⟩, hF2, hK2, hB2⟩ := hD
      have hbd := (HSB.out k).1
      have hnx : ∀ k, sendTo (send1 s c) o bytes d (k + 1) = if (sendTo (send1 s c) o bytes d k).1.most ≤ (((sendTo (send1 s c) o bytes d k).1.q o).length : Int) then ({ (sendTo (send1 s c) o bytes d k).1 with lost := (sendTo (send1 s c) o bytes d k).1.lost + 1 }, (sendTo (send1 s c) o bytes d k).2)
        else ({ (sendTo (send1 s c) o bytes d k).1 with put := (sendTo (send1 s c) o bytes d k).1.put + 1 }.setQ o (hpush ((sendTo (send1 s c) o bytes d k).1.q o) ⟨(sendTo (send1 s c) o bytes d k).1.now + d % 8 + k, (sendTo (send1 s c) o bytes d k).1.put + 1, bytes⟩), (sendTo (send1 s c) o bytes d k).2 + 1) := fun _ => rfl
      have HNX := Lib.hid (hnx k)
      have htk := (HSB.out k).2
      clear hnx
      have hk4 : (k : Int) < 4 := by omega
      have HKN := Lib.hid hcn
      by_cases hlt : (k : Int) < cn
      · generalize hst : sendTo (send1 s c) o bytes d k = st at *
        have hq := isv_qv hv2 ho
        obtain ⟨a, cap, hvs⟩ := own_len hq.2.2.2
        have cq := hq.1
        rw [hvs] at cq
        have cm : wr.cell? ⟨g, 0, none⟩ = some (.int .i64 st.1.most) := isv_cell hv2 0
        have hql := hbd.q o ho
        have hml := hbd.most
        have HQ := Lib.hid hq
        have HV2 := Lib.hid hv2
        have HF2 := Lib.hid hF2
        have HK2 := Lib.hid hK2
        have HB2 := Lib.hid hB2
        have HST := Lib.hid hst
        have HBD := Lib.hid hbd
        clear hq hv2 hF2 hK2 hB2 hst hcn hbd
        by_cases hfull : st.1.most ≤ ((st.1.q o).length : Int)
        · have HA3 := Lib.hid (fun n => add_calls (wr.drewN n) g 6 st.1.lost (isv_cell HV2.out 6) (isv_free HV2.out 6) HBD.out.lost.1 (by have := HBD.out.lost.2; omega))
          have HD3 := Lib.hid (fun n => isn_set (w := wr.drewN n) ⟨vs2, HV2.out⟩ 6 (.int .i64 (st.1.lost + 1)) (s' := { st.1 with lost := st.1.lost + 1 }) (fun vs => rfl) rfl)
          rw [if_pos hfull] at HNX
          go_wp2
          go_quiet (fail)
          go_wp2_with fail
          refine (HA3.out nq).mono ?_
          rintro e w3 ⟨rfl, hw3⟩
          have hD3 := HD3.out nq
          rw [← hw3] at hD3
          have HD4 := Lib.hid hD3
          clear hw3 hD3
          go_wp2
          refine ⟨⟨k + 1, by omega, by go_num, by rw [HNX.out], ?_⟩, by simp [intOf]; omega⟩
          rw [HNX.out]
          exact did_app (w1 := wr.drewN nq) HF2.out (HK2.out.drewN nq) (pw_below_drewN HB2.out nq) HD4.out
        · rw [if_neg hfull] at HNX
          have c2 : wr.cell? ⟨g, 2, none⟩ = some (.int .i64 st.1.put) := isv_cell HV2.out 2
          have f2 : wr.frozen? ⟨g, 2, none⟩ = false := isv_free HV2.out 2
          have hp0 := HBD.out.put.1
          have hp1 : st.1.put < 1000000 := by have := HBD.out.put.2; omega
          have HDP := Lib.hid (fun n => isn_set (w := wr.drewN n) ⟨vs2, HV2.out⟩ 2 (.int .i64 (st.1.put + 1)) (s' := { st.1 with put := st.1.put + 1 }) (fun vs => rfl) rfl)
          go_wp2
          go_quiet (fail)
          go_wp2_with fail
          have hFB2 : ¬ F2 w.heap.size := by
            intro hf
            rcases HF2.out _ hf with h | h
            · exact hFB1 h
            · have := blk_lt HBK.out; omega
          have hgB : g ≠ w.heap.size := fun e => hFB2 (e ▸ HV2.out.2.2.2.1)
          have hbr : wr.heap[w.heap.size]? = some (.cells #[.int .u8 c, .int .u8 d] 28) := (HK2.out.2 _ (blk_lt HBK.out) hFB1).trans HBK.out
          have hb5 : ((wr.drewN nq).setCell ⟨g, 2, none⟩ (.int .i64 (st.1.put + 1))).heap[w.heap.size]? = some (.cells #[.int .u8 c, .int .u8 d] 28) := (heap_setCell_other _ _ _ _ (fun e => hgB e.symm)).trans hbr
          have hD5 := HDP.out nq
          generalize hw5 : (wr.drewN nq).setCell ⟨g, 2, none⟩ (.int .i64 (st.1.put + 1)) = w5 at *
          obtain ⟨F5, ⟨vs5, hv5⟩, hF5, hK5, hB5⟩ := hD5
          have hFB5 : ¬ F5 w.heap.size := by
            intro hf
            rcases hF5 _ hf with h | h
            · exact hFB2 h
            · have h' : wr.heap.size ≤ w.heap.size := h
              have := blk_lt hbr
              omega
          have k1 : w5.cell? ⟨g, 1, none⟩ = some (.int .u64 st.1.now) := isv_cell hv5 1
          have k2 : w5.cell? ⟨g, 2, none⟩ = some (.int .i64 (st.1.put + 1)) := isv_cell hv5 2
          have k3 : w5.cell? ⟨w.heap.size, 1, none⟩ = some (.int .u8 d) := (cell_of_row _ _ 1 _ 28 (0, 0) hb5).trans rfl
          have hq5 : QV w5.drew base ⟨g, 3 + o, none⟩ (vs5 o) (st.1.q o) := isv_qv (s := { st.1 with put := st.1.put + 1 }) hv5 ho
          have HP := Lib.hid (hpush_calls w5.drew base g (3 + o) (vs5 o) (st.1.q o) ⟨st.1.now + d % 8 + k, st.1.put + 1, bytes⟩ hq5 hbg (by omega))
          have HAft := Lib.hid (fun v6 w6 (hQ6 : QV w6 base ⟨g, 3 + o, none⟩ v6 (hpush (st.1.q o) ⟨st.1.now + d % 8 + k, st.1.put + 1, bytes⟩)) (hT6 : Turned w5.drew w6 base g (3 + o) (vs5 o) v6) => isn_turned (w := w5.drew) (s := { st.1 with put := st.1.put + 1 }) hv5 ho hQ6 hT6)
          unfold D.val at HP
          have hn0 := HBD.out.now.1
          have hn1 : st.1.now < 1000000 := by have := HBD.out.now.2; omega
          have HF5 := Lib.hid hF5
          have HK5 := Lib.hid hK5
          have HB5 := Lib.hid hB5
          have HV5 := Lib.hid hv5
          have HW5 := Lib.hid hw5
          have HB5' := Lib.hid hb5
          clear hq5 hF5 hK5 hB5 hv5 hw5 hb5 hbr
          go_region_held (fun w' => w'.cell? ⟨g, 1, none⟩ = some (.int .u64 st.1.now) ∧ w'.cell? ⟨g, 2, none⟩ = some (.int .i64 (st.1.put + 1)) ∧ w'.cell? ⟨w.heap.size, 1, none⟩ = some (.int .u8 d)) (go_keep)
            (first | (go_at_call 27; refine (HP.out).mono ?_; rintro e w6 ⟨rfl, v6, hQ6, hT6⟩; have hA := HAft.out v6 w6 hQ6 hT6; clear hQ6 hT6; have HA6 := Lib.hid hA; obtain ⟨F6, ⟨vs6, hv6⟩, hF6, hK6, hB6⟩ := hA; have l1 : w6.cell? ⟨g, 1, none⟩ = some (.int .u64 st.1.now) := isv_cell hv6 1; have l2 : w6.cell? ⟨g, 2, none⟩ = some (.int .i64 (st.1.put + 1)) := isv_cell hv6 2; have l3 : w6.cell? ⟨w.heap.size, 1, none⟩ = some (.int .u8 d) := (cell_of_row _ _ 1 _ 28 (0, 0) ((hK6.2 _ (blk_lt HB5'.out) hFB5).trans HB5'.out)).trans rfl; clear hv6 hF6 hK6 hB6))
          all_goals go_wp2
          refine ⟨⟨k + 1, by omega, by go_num, by rw [HNX.out], ?_⟩, by simp [intOf]; omega⟩
          rw [HNX.out]
          exact did_app (w1 := wr.drewN nq) HF2.out (HK2.out.drewN nq) (pw_below_drewN HB2.out nq) (did_app (w := wr.drewN nq) (w1 := w5.drew) HF5.out HK5.out.drew HB5.out.drew HA6.out)
      · have hkc : cn.toNat = k := by omega
        have e2 : sendS s o bytes c d = sendTo (send1 s c) o bytes d k := by unfold sendS; rw [HKN.out, hkc]
        go_wp2
        go_ret2
        exact ⟨rfl, HW.out _ _ HD.out⟩
end Go.Proofs.Ytjdehmclcdiijaa.Hp
