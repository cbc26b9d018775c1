/- The network's Recv and Send. -/
import Derived.Test.YtjdehmclcdiijaaNw
import Derived.Deep.QuietTactic
set_option linter.unusedVariables false
namespace Go.Proofs.Ytjdehmclcdiijaa.Hp
open Go.RowKit Go.Proofs.YtjdehmclcdiijaaW.PrintWords Go.Proofs.YtjdehmclcdiijaaW.PrintLast Go.Proofs.YtjdehmclcdiijaaW.PrintMore

theorem isn_drewN {w : World} {base g : Nat} {s : NS} {F : Nat → Prop} (h : IsN w base g s F) (n : Nat) : IsN (w.drewN n) base g s F := h
theorem did_drewN {w : World} {base g : Nat} {s : NS} {F : Nat → Prop} (h : IsN w base g s F) (n : Nat) : Did w (w.drewN n) base g s F := ⟨F, h, fun k hk => Or.inl hk, (Kept.refl _ _).drewN n, pw_below_drewN (Below.refl _ _) n⟩

/-- Nothing is told of no network, or of no way. -/
theorem recv_none (w : World) (p : Option Addr) (way : Int) (h : ∀ n, Calls Try.prog 25 #[.pointer p, .int .i64 way] (w.drewN n) fun e w' => e = .returned (.bool false) ∧ w.drewN n = w') :
    Calls Try.prog 15 #[.pointer p, .int .i64 way] w fun e w' => e = .returned (.tuple #[.string .empty, .bool false]) ∧ ∃ m, w' = w.drewN m := by
  have HI := Lib.hid (fun n => (h n).mono (fun e w' hw => (⟨hw.1, hw.2.symm⟩ : e = .returned (.bool false) ∧ w' = w.drewN n)))
  clear h
  go_enter Try.func15, Try.ntmps15
  go_wp2
  go_quiet (first | (go_at_call 25; exact Calls.quiet_of_same (HI.out _)))
  all_goals go_wp2
  all_goals go_ret2
  all_goals exact ⟨rfl, _, rfl⟩

def ready (s : NS) (o : Nat) : Bool := decide (0 < (s.q o).length) && decide (((s.q o).getD 0 d0).due ≤ s.now)
theorem recv_not (w : World) (base g : Nat) (s : NS) (F : Nat → Prop) (h : IsN w base g s F) (hm : 0 < s.most) (o : Nat) (ho : o < 2) (hr : ready s o = false) :
    Calls Try.prog 15 #[.pointer (some ⟨g, 0, none⟩), .int .i64 o] w fun e w' => e = .returned (.tuple #[.string .empty, .bool false]) ∧ ∃ m, w' = w.drewN m := by
  obtain ⟨vs, hv⟩ := h
  have HM := Lib.hid (fun n => (may_calls (w.drewN n) g s.most o (isv_cell hv 0)).mono (fun e w' hw => (⟨hw.1, hw.2.symm⟩ : e = .returned (.bool (mayB s.most o)) ∧ w' = w.drewN n)))
  have e1 : mayB s.most o = true := by unfold mayB; rw [decide_eq_true hm, decide_eq_true (by omega : (0 : Int) ≤ o), decide_eq_true (by omega : (o : Int) < 2)]; rfl
  simp only [e1] at HM
  have hq := isv_qv hv ho
  have c1 : w.cell? ⟨g, 1, none⟩ = some (.int .u64 s.now) := isv_cell hv 1
  by_cases h0 : (s.q o).length = 0
  · obtain ⟨a, cap, hvs⟩ := own_len hq.2.2.2
    have cq := hq.1
    rw [hvs, h0] at cq
    clear hq hv e1 hr h0
    go_enter Try.func15, Try.ntmps15
    go_wp2
    go_quiet (first | (go_at_call 25; exact Calls.quiet_of_same (HM.out _)))
    all_goals go_wp2
    all_goals go_ret2
    all_goals exact ⟨rfl, _, rfl⟩
  · obtain ⟨b, cap, hvs, hQ⟩ := qv_q hq (by omega)
    have cq := hq.1
    rw [hvs] at cq
    obtain ⟨r1, _, _⟩ := row_cells hQ.2.2.2 (i := 0) (by omega)
    have hd : s.now < ((s.q o).getD 0 d0).due := by
      unfold ready at hr
      rw [decide_eq_true (by omega), Bool.true_and] at hr
      have := of_decide_eq_false hr
      omega
    have hl0 : (((s.q o).length : Int) == 0) = false := by simp; intro e; rw [e] at h0; simp at h0
    have hl1 : 0 < (s.q o).length := by omega
    clear hQ hq hv e1 hr h0
    rw [show 0 * 3 = 0 from rfl] at r1
    generalize (s.q o).length = n at *
    generalize (s.q o).getD 0 d0 = x at *
    go_enter Try.func15, Try.ntmps15
    go_wp2
    go_quiet (first | (go_at_call 25; exact Calls.quiet_of_same (HM.out _)))
    all_goals go_wp2
    all_goals go_ret2
    all_goals exact ⟨rfl, _, rfl⟩

theorem fd72 (x y z : Value) (w : World) : (Instr.field 72 (.agg #[x, y, z]) 2).run Try.prog w = .ok z w := by kernel_rfl
set_option maxHeartbeats 1000000 in
theorem recv_calls (w : World) (base g : Nat) (s : NS) (F : Nat → Prop) (h : IsN w base g s F) (hm : 0 < s.most) (o : Nat) (ho : o < 2) (hr : ready s o = true) (hl : (s.q o).length ≤ 900) (ht0 : 0 ≤ s.told) (ht : s.told < 1000000) :
    Calls Try.prog 15 #[.pointer (some ⟨g, 0, none⟩), .int .i64 o] w fun e w' => e = .returned (.tuple #[.string (htop (s.q o)).bytes, .bool true]) ∧ Did w w' base g ({ s with told := s.told + 1 }.setQ o (hrest (s.q o))) F := by
  have hbg : base ≤ g := by obtain ⟨vs, hv⟩ := h; exact (hv.2.2.2.2 g hv.2.2.2.1).1
  have HD1 := Lib.hid (fun n => isn_set (isn_drewN h n) 7 (.int .i64 (s.told + 1)) (s' := { s with told := s.told + 1 }) (fun vs => rfl) rfl)
  have HD0 := Lib.hid (did_drewN h)
  obtain ⟨vs, hv⟩ := h
  have HM := Lib.hid (fun n => (may_calls (w.drewN n) g s.most o (isv_cell hv 0)).mono (fun e w' hw => (⟨hw.1, hw.2.symm⟩ : e = .returned (.bool (mayB s.most o)) ∧ w' = w.drewN n)))
  have e1 : mayB s.most o = true := by unfold mayB; rw [decide_eq_true hm, decide_eq_true (by omega : (0 : Int) ≤ o), decide_eq_true (by omega : (o : Int) < 2)]; rfl
  simp only [e1] at HM
  have hq := isv_qv hv ho
  have c1 : w.cell? ⟨g, 1, none⟩ = some (.int .u64 s.now) := isv_cell hv 1
  have HA := Lib.hid (fun n => add_calls (w.drewN n) g 7 s.told (isv_cell hv 7) (isv_free hv 7) ht0 ht)
  unfold ready at hr
  rw [Bool.and_eq_true] at hr
  have hl1 : 0 < (s.q o).length := of_decide_eq_true hr.1
  have hd : ((s.q o).getD 0 d0).due ≤ s.now := of_decide_eq_true hr.2
  obtain ⟨b, cap, hvs, hQ⟩ := qv_q hq hl1
  have cq := hq.1
  rw [hvs] at cq
  obtain ⟨r1, _, _⟩ := row_cells hQ.2.2.2 (i := 0) (by omega)
  have hl0 : (((s.q o).length : Int) == 0) = false := by have := hl1; simp; intro e; rw [e] at this; simp at this
  clear hQ hq hv e1 hr
  rw [show 0 * 3 = 0 from rfl] at r1
  have HL := Lib.hid hl
  have HL1 := Lib.hid hl1
  generalize hn : (s.q o).length = n at hl1 hl0 cq
  generalize hx : (s.q o).getD 0 d0 = x at r1 hd
  clear hl hn hx
  have hta := ta72
  have hfd := fd72
  go_enter Try.func15, Try.ntmps15
  go_wp2
  go_quiet (first | (go_at_call 25; exact Calls.quiet_of_same (HM.out _)))
  go_wp2_with fail
  refine (HA.out nq).mono ?_
  rintro e w2 ⟨rfl, hw2⟩
  obtain ⟨F1, ⟨vs1, hv1⟩, hF1, hK1, hB1⟩ := HD1.out nq
  rw [← hw2] at hv1 hK1 hB1
  clear hw2
  have hq1 := isv_qv hv1 ho
  have HP := Lib.hid (hpop_calls w2 base g (3 + o) (vs1 o) (s.q o) hq1 HL1.out hbg HL.out)
  have HV := Lib.hid hv1
  have HF := Lib.hid hF1
  have HK := Lib.hid hK1
  have HB := Lib.hid hB1
  clear hq1 hv1 hF1 hK1 hB1
  unfold D.val at HP
  go_wp2_with fail
  refine (HP.out).mono ?_
  rintro e w3 ⟨rfl, v1, hQ3, hT3⟩
  have HQ3 := Lib.hid hQ3
  have HT3 := Lib.hid hT3
  clear hQ3 hT3
  go_wp2
  go_ret2
  obtain ⟨F2, i2, s2, k2, b2⟩ := isn_turned HV.out ho HQ3.out HT3.out
  refine ⟨rfl, did_from (w0 := w.drewN nq) ((Kept.refl _ _).drewN nq) (pw_below_drewN (Below.refl _ _) nq) ⟨F2, i2, fun k hk => ?_, HK.out.then_ k2 HF.out, HB.out.trans b2⟩⟩
  rcases s2 k hk with h | h
  · exact HF.out k h
  · exact Or.inr (Nat.le_trans HK.out.1 h)

/-! Send. -/
def send1 (s : NS) (c : Int) : NS := { s with sent := s.sent + 1, lost := if c % 4 = 0 then s.lost + 1 else s.lost }
def sendTo (s : NS) (o : Nat) (bytes : ByteArray) (d : Int) : Nat → NS × Int
  | 0 => (s, 0)
  | k + 1 =>
    if (sendTo s o bytes d k).1.most ≤ (((sendTo s o bytes d k).1.q o).length : Int) then ({ (sendTo s o bytes d k).1 with lost := (sendTo s o bytes d k).1.lost + 1 }, (sendTo s o bytes d k).2)
    else ({ (sendTo s o bytes d k).1 with put := (sendTo s o bytes d k).1.put + 1 }.setQ o (hpush ((sendTo s o bytes d k).1.q o) ⟨(sendTo s o bytes d k).1.now + d % 8 + k, (sendTo s o bytes d k).1.put + 1, bytes⟩), (sendTo s o bytes d k).2 + 1)
def sendS (s : NS) (o : Nat) (bytes : ByteArray) (c d : Int) : NS × Int := sendTo (send1 s c) o bytes d (c % 4).toNat

/-- The counts are small. -/
structure Small (s : NS) (B : Int) : Prop where
  most0 : 0 < s.most
  most : s.most ≤ 64
  now : 0 ≤ s.now ∧ s.now ≤ B
  put : 0 ≤ s.put ∧ s.put ≤ B
  sent : 0 ≤ s.sent ∧ s.sent ≤ B
  lost : 0 ≤ s.lost ∧ s.lost ≤ B
  told : 0 ≤ s.told ∧ s.told ≤ B
  q : ∀ o, o < 2 → ((s.q o).length : Int) ≤ s.most
theorem hpush_len (l : List D) (d : D) : (hpush l d).length = l.length + 1 := by unfold hpush; rw [hup_len]; simp
theorem hrest_len (l : List D) : (hrest l).length = l.length - 1 := by unfold hrest hturn; rw [List.length_take, hdown_len, swp_len]; omega
theorem send1_small {s : NS} {B : Int} (h : Small s B) (c : Int) : Small (send1 s c) (B + 1) := by
  obtain ⟨h1, h2, h3, h4, h5, h6, h7, h8⟩ := h
  refine ⟨h1, h2, ⟨h3.1, ?_⟩, ⟨h4.1, ?_⟩, ⟨?_, ?_⟩, ⟨?_, ?_⟩, ⟨h7.1, ?_⟩, h8⟩ <;> simp only [send1] <;> (try split) <;> omega
theorem sendTo_small {s : NS} {B : Int} (h : Small s B) (o : Nat) (ho : o < 2) (bytes : ByteArray) (d : Int) : ∀ k : Nat, Small (sendTo s o bytes d k).1 (B + k) ∧ 0 ≤ (sendTo s o bytes d k).2 ∧ (sendTo s o bytes d k).2 ≤ k
  | 0 => ⟨by simpa [sendTo] using h, by simp [sendTo]⟩
  | k + 1 => by
    obtain ⟨⟨h1, h2, h3, h4, h5, h6, h7, h8⟩, h9, h10⟩ := sendTo_small h o ho bytes d k
    rw [sendTo]
    split
    · exact ⟨⟨h1, h2, ⟨h3.1, by simp only; omega⟩, ⟨h4.1, by simp only; omega⟩, ⟨h5.1, by simp only; omega⟩, ⟨by simp only; omega, by simp only; omega⟩, ⟨h7.1, by simp only; omega⟩, h8⟩, h9, by omega⟩
    · rename_i hn
      refine ⟨⟨h1, h2, ⟨h3.1, by simp only [NS.setQ]; omega⟩, ⟨by simp only [NS.setQ]; omega, by simp only [NS.setQ]; omega⟩, ⟨h5.1, by simp only [NS.setQ]; omega⟩, ⟨h6.1, by simp only [NS.setQ]; omega⟩, ⟨h7.1, by simp only [NS.setQ]; omega⟩, ?_⟩, by simp only; omega, by simp only; omega⟩
      intro p hp
      simp only [NS.setQ]
      split
      · rename_i e; subst e; rw [hpush_len]; omega
      · exact h8 p hp

/-- Send to no network: no answer but the error. -/
theorem send_none (w : World) (p : Option Addr) (way : Int) (bytes : ByteArray) (c d : Int) (h : ∀ w, Calls Try.prog 24 #[.pointer p] w fun e w' => e = .returned (.bool false) ∧ w = w') :
    Calls Try.prog 10 #[.pointer p, .int .i64 way, .string bytes, .agg #[.int .u8 c, .int .u8 d]] w fun e w' => e = .returned (.tuple #[.int .i64 0, .int .i64 1]) ∧ ∃ o, w' = w.alloc o := by
  have HI := Lib.hid h
  clear h
  go_enter Try.func10, Try.ntmps10
  go_wp2_with fail
  refine (HI.out _).mono ?_
  rintro e w2 ⟨rfl, rfl⟩
  go_wp2
  go_ret2
  exact ⟨rfl, _, rfl⟩
end Go.Proofs.Ytjdehmclcdiijaa.Hp
