/- NetworkPlays: counts, and the walk. -/
import Derived.Test.YtjdehmclcdiijaaRs
import Derived.Test.YtjdehmclcdiijaaRv
set_option linter.unusedVariables false
namespace Go.Proofs.Ytjdehmclcdiijaa.Hp
open Go.RowKit Go.Proofs.YtjdehmclcdiijaaW.PrintWords Go.Proofs.YtjdehmclcdiijaaW.PrintLast Go.Proofs.YtjdehmclcdiijaaW.PrintMore Go.Proofs.Ytjdehmclcdiijaa.PNetworkApart

theorem x_rsend (w : World) (base g : Nat) (a : AN) (F : Nat → Prop) (h : IsR w base g a F) (B : Int) (hs : ASmall a B) (hB : B ≤ 100000) (hbw : base ≤ w.heap.size) (o : Nat) (ho : o < 2) (bytes : ByteArray) (c d : Int) (hc0 : 0 ≤ c) (hc1 : c < 256) (hd0 : 0 ≤ d) (hd1 : d < 256) :
    Calls Try.prog 17 #[.pointer (some ⟨g, 0, none⟩), .int .i64 o, .string bytes, .int .u8 c, .int .u8 d] w fun e w' =>
      e = .returned (.tuple #[.int .i64 (aSendK a o bytes c d), .int .i64 (aSendE bytes)]) ∧ DidR w w' base g (aSend a o bytes c d) F := by
  unfold aSendK aSend aSendE
  by_cases hl : bytes.size ≤ 4102
  · rw [if_pos hl, if_pos hl, if_pos hl]
    exact r_send w base g a F h B hs hB hbw o ho bytes hl c d hc0 hc1 hd0 hd1
  · rw [if_neg hl, if_neg hl, if_neg hl]
    exact (r_send_long w g o ho bytes (by omega) c d).mono fun e w' k => ⟨k.1, by obtain ⟨_, rfl⟩ := k; exact didr_refl h⟩
/-- What Recv makes of a network, and its answers. -/
def aRec (a : AN) (o : Nat) : AN := if aready a o = true then arecv a o else a
def aRecS (a : AN) (o : Nat) : ByteArray := if aready a o = true then atop a o else .empty
theorem aRec_small {a : AN} {B : Int} (h : ASmall a B) (o : Nat) : ASmall (aRec a o) (B + 4) := by
  unfold aRec
  split
  · exact asmall_mono (arecv_small h o) (by omega)
  · exact asmall_mono h (by omega)
theorem x_recv (w : World) (base g : Nat) (a : AN) (F : Nat → Prop) (h : IsA w base g a F) (B : Int) (hs : ASmall a B) (hB : B ≤ 100000) (o : Nat) (ho : o < 2) :
    Calls Try.prog 15 #[.pointer (some ⟨g, 0, none⟩), .int .i64 o] w fun e w' => e = .returned (.tuple #[.string (aRecS a o), .bool (aready a o)]) ∧ DidA w w' base g (aRec a o) F := by
  unfold aRecS aRec
  cases hr : aready a o
  · rw [if_neg Bool.false_ne_true, if_neg Bool.false_ne_true]
    refine (a_recv_not w base g a F h hs.most0 o ho hr).mono ?_
    rintro e w' ⟨rfl, m, rfl⟩
    exact ⟨rfl, dida_drewN h m⟩
  · rw [if_pos rfl, if_pos rfl]
    exact a_recv w base g a F h B hs hB o ho hr
theorem x_rrecv (w : World) (base g : Nat) (a : AN) (F : Nat → Prop) (h : IsR w base g a F) (B : Int) (hs : ASmall a B) (hB : B ≤ 100000) (o : Nat) (ho : o < 2) :
    Calls Try.prog 18 #[.pointer (some ⟨g, 0, none⟩), .int .i64 o] w fun e w' => e = .returned (.tuple #[.string (aRecS a o), .bool (aready a o)]) ∧ DidR w w' base g (aRec a o) F := by
  have key : (aready a o = true → aRecS a o = atop a o ∧ aready a o = true ∧ aRec a o = arecv a o) ∧ (aready a o = false → aRecS a o = .empty ∧ aready a o = false ∧ aRec a o = a) :=
    ⟨fun hr => ⟨by unfold aRecS; rw [if_pos hr], hr, by unfold aRec; rw [if_pos hr]⟩, fun hr => ⟨by unfold aRecS; rw [hr, if_neg Bool.false_ne_true], hr, by unfold aRec; rw [hr, if_neg Bool.false_ne_true]⟩⟩
  rcases (by omega : o = 0 ∨ o = 1) with rfl | rfl
  · exact r_recv0 w base g a F h B hs hB _ _ _ key
  · exact r_recv1 w base g a F h B hs hB _ _ _ key

/-- The program's network and the document's. -/
structure Duo (w : World) (base g1 g2 : Nat) (a b : AN) (Fa Fr : Nat → Prop) : Prop where
  l : IsA w base g1 a Fa
  r : IsR w base g2 b Fr
  apart : ∀ k, Fa k → ¬ Fr k
theorem isr_foot {w : World} {base g : Nat} {a : AN} {F : Nat → Prop} (h : IsR w base g a F) : F g ∧ ∀ k, F k → base ≤ k ∧ k < w.heap.size := by
  obtain ⟨vs, h2⟩ := h
  exact ⟨h2.2.2.2.1, h2.2.2.2.2⟩
theorem duo_left {w w' : World} {base g1 g2 : Nat} {a b a' : AN} {Fa Fb : Nat → Prop} (h : Duo w base g1 g2 a b Fa Fb) (k : DidA w w' base g1 a' Fa) : ∃ Fa', Duo w' base g1 g2 a' b Fa' Fb ∧ (∀ k, Fa' k → Fa k ∨ w.heap.size ≤ k) ∧ Below base w w' ∧ Kept w w' Fa := by
  obtain ⟨F', k1, k2, k3, k4⟩ := k
  refine ⟨F', ⟨k1, isr_kept h.r k3 (fun i hb ha => h.apart i ha hb), fun i hi hb => ?_⟩, k2, k4, k3⟩
  rcases k2 i hi with hf | hf
  · exact h.apart i hf hb
  · have := ((isr_foot h.r).2 i hb).2; omega
theorem duo_right {w w' : World} {base g1 g2 : Nat} {a b b' : AN} {Fa Fb : Nat → Prop} (h : Duo w base g1 g2 a b Fa Fb) (k : DidR w w' base g2 b' Fb) : ∃ Fb', Duo w' base g1 g2 a b' Fa Fb' ∧ (∀ k, Fb' k → Fb k ∨ w.heap.size ≤ k) ∧ Below base w w' ∧ Kept w w' Fb := by
  obtain ⟨F', k1, k2, k3, k4⟩ := k
  refine ⟨F', ⟨isa_kept h.l k3 (fun i ha hb => h.apart i ha hb), k1, fun i ha hi => ?_⟩, k2, k4, k3⟩
  rcases k2 i hi with hf | hf
  · exact h.apart i ha hf
  · have := ((isa_foot h.l).2 i ha).2; omega

theorem counts_none (w : World) (p : Option Addr) (way : Int) (h24 : ∀ w, Calls Try.prog 24 #[.pointer p] w fun e w' => e = .returned (.bool false) ∧ w = w') (h25 : ∀ w, Calls Try.prog 25 #[.pointer p, .int .i64 way] w fun e w' => e = .returned (.bool false) ∧ w = w') :
    Calls Try.prog 19 #[.pointer p, .pointer none, .int .i64 way] w fun e w' => e = .returned (.bool true) ∧ w = w' := by
  have Q1 := Lib.hid (now_none w p (h24 w))
  have Q2 := Lib.hid (sent_none w p (h24 w))
  have Q3 := Lib.hid (lost_none w p (h24 w))
  have Q4 := Lib.hid (told_none w p (h24 w))
  have Q5 := Lib.hid (waiting_none w p way (h25 w))
  clear h24 h25
  go_enter Try.func19, Try.ntmps19
  go_wp2_with fail
  refine (Q1.out).mono ?_
  rintro e w5 ⟨rfl, rfl⟩
  go_wp2_with fail
  refine (Q2.out).mono ?_
  rintro e w5 ⟨rfl, rfl⟩
  go_wp2_with fail
  refine (Q3.out).mono ?_
  rintro e w5 ⟨rfl, rfl⟩
  go_wp2_with fail
  refine (Q4.out).mono ?_
  rintro e w5 ⟨rfl, rfl⟩
  go_wp2_with fail
  refine (Q5.out).mono ?_
  rintro e w5 ⟨rfl, rfl⟩
  go_wp2
  go_ret
  exact ⟨rfl, rfl⟩
theorem isr_drewN {w : World} {base g : Nat} {a : AN} {F : Nat → Prop} (h : IsR w base g a F) (n : Nat) : IsR (w.drewN n) base g a F := h
theorem counts_calls (w : World) (base g1 g2 : Nat) (a : AN) (Fa Fr : Nat → Prop) (h : Duo w base g1 g2 a a Fa Fr) (hm : 0 < a.most) (way : Int) :
    Calls Try.prog 19 #[.pointer (some ⟨g1, 0, none⟩), .pointer (some ⟨g2, 0, none⟩), .int .i64 way] w fun e w' => e = .returned (.bool true) ∧ ∃ m, w' = w.drewN m := by
  have flip : ∀ {f : FuncId} {args : Array Value} {n : Nat} {v : Value}, (Calls Try.prog f args (w.drewN n) fun e w' => e = .returned v ∧ w.drewN n = w') → Calls Try.prog f args (w.drewN n) fun e w' => e = .returned v ∧ w' = w.drewN n := fun h => h.mono fun e w' k => ⟨k.1, k.2.symm⟩
  have Q1 := Lib.hid (fun n => flip (a_now (w.drewN n) base g1 a Fa h.l hm))
  have Q2 := Lib.hid (fun n => flip (a_sent (w.drewN n) base g1 a Fa h.l hm))
  have Q3 := Lib.hid (fun n => flip (a_lost (w.drewN n) base g1 a Fa h.l hm))
  have Q4 := Lib.hid (fun n => flip (a_told (w.drewN n) base g1 a Fa h.l hm))
  have Q5 := Lib.hid (fun way n => flip (a_waiting (w.drewN n) base g1 a Fa h.l hm way))
  have Q6 := Lib.hid (fun way n => flip (r_waiting (w.drewN n) base g2 a Fr h.r way))
  obtain ⟨vs, hv⟩ := h.r
  have c1 : w.cell? ⟨g2, 1, none⟩ = some (.int .u64 a.now) := rv_cell hv 1
  have c4 : w.cell? ⟨g2, 4, none⟩ = some (.int .i64 a.sent) := rv_cell hv 4
  have c5 : w.cell? ⟨g2, 5, none⟩ = some (.int .i64 a.lost) := rv_cell hv 5
  have c6 : w.cell? ⟨g2, 6, none⟩ = some (.int .i64 a.told) := rv_cell hv 6
  clear hv h flip
  generalize a.now = x1 at *
  generalize a.sent = x2 at *
  generalize a.lost = x3 at *
  generalize a.told = x4 at *
  go_enter Try.func19, Try.ntmps19
  go_wp2
  go_quiet (first | (go_at_call 14; exact Calls.quiet_of_same (Q1.out _)) | (go_at_call 21; exact Calls.quiet_of_same (Q2.out _)) | (go_at_call 22; exact Calls.quiet_of_same (Q3.out _)) | (go_at_call 23; exact Calls.quiet_of_same (Q4.out _)) | (go_at_call 13; exact Calls.quiet_of_same (Q5.out _ _)) | (go_at_call 29; exact Calls.quiet_of_same (Q6.out _ _)))
  go_wp2
  go_ret
  exact ⟨rfl, _, rfl⟩

/-! Whatever the way. -/
def wSend (a : AN) (way : Int) (bytes : ByteArray) (c d : Int) : AN := if 0 ≤ way ∧ way < 2 then aSend a way.toNat bytes c d else a
def wSendK (a : AN) (way : Int) (bytes : ByteArray) (c d : Int) : Int := if 0 ≤ way ∧ way < 2 then aSendK a way.toNat bytes c d else 0
def wSendE (way : Int) (bytes : ByteArray) : Int := if 0 ≤ way ∧ way < 2 then aSendE bytes else 2
def wRec (a : AN) (way : Int) : AN := if 0 ≤ way ∧ way < 2 then aRec a way.toNat else a
def wRecS (a : AN) (way : Int) : ByteArray := if 0 ≤ way ∧ way < 2 then aRecS a way.toNat else .empty
def wRecB (a : AN) (way : Int) : Bool := if 0 ≤ way ∧ way < 2 then aready a way.toNat else false
theorem wSend_small {a : AN} {B : Int} (h : ASmall a B) (way : Int) (bytes : ByteArray) (c d : Int) : ASmall (wSend a way bytes c d) (B + 4) := by
  unfold wSend
  split
  · exact aSend_small h _ _ _ _
  · exact asmall_mono h (by omega)
theorem wRec_small {a : AN} {B : Int} (h : ASmall a B) (way : Int) : ASmall (wRec a way) (B + 4) := by
  unfold wRec
  split
  · exact aRec_small h _
  · exact asmall_mono h (by omega)
theorem w_send (w : World) (base g : Nat) (a : AN) (F : Nat → Prop) (h : IsA w base g a F) (B : Int) (hs : ASmall a B) (hB : B ≤ 100000) (hbw : base ≤ w.heap.size) (way : Int) (bytes : ByteArray) (c d : Int) (hc0 : 0 ≤ c) (hc1 : c < 256) (hd0 : 0 ≤ d) (hd1 : d < 256) :
    Calls Try.prog 10 #[.pointer (some ⟨g, 0, none⟩), .int .i64 way, .string bytes, .agg #[.int .u8 c, .int .u8 d]] w fun e w' =>
      e = .returned (.tuple #[.int .i64 (wSendK a way bytes c d), .int .i64 (wSendE way bytes)]) ∧ DidA w w' base g (wSend a way bytes c d) F := by
  unfold wSendK wSend wSendE
  by_cases hw : 0 ≤ way ∧ way < 2
  · rw [if_pos hw, if_pos hw, if_pos hw]
    have := x_send w base g a F h B hs hB hbw way.toNat (by omega) bytes c d hc0 hc1 hd0 hd1
    rw [Int.toNat_of_nonneg hw.1] at this
    exact this
  · rw [if_neg hw, if_neg hw, if_neg hw]
    have h' := h
    obtain ⟨s, ha, hn⟩ := h
    refine (send_noway w base g s F hn (abs_small ha hs).most0 way hw bytes c d).mono ?_
    rintro e w' ⟨rfl, ob, rfl⟩
    exact ⟨rfl, dida_alloc h' hbw ob⟩
theorem w_rsend (w : World) (base g : Nat) (a : AN) (F : Nat → Prop) (h : IsR w base g a F) (B : Int) (hs : ASmall a B) (hB : B ≤ 100000) (hbw : base ≤ w.heap.size) (way : Int) (bytes : ByteArray) (c d : Int) (hc0 : 0 ≤ c) (hc1 : c < 256) (hd0 : 0 ≤ d) (hd1 : d < 256) :
    Calls Try.prog 17 #[.pointer (some ⟨g, 0, none⟩), .int .i64 way, .string bytes, .int .u8 c, .int .u8 d] w fun e w' =>
      e = .returned (.tuple #[.int .i64 (wSendK a way bytes c d), .int .i64 (wSendE way bytes)]) ∧ DidR w w' base g (wSend a way bytes c d) F := by
  unfold wSendK wSend wSendE
  by_cases hw : 0 ≤ way ∧ way < 2
  · rw [if_pos hw, if_pos hw, if_pos hw]
    have := x_rsend w base g a F h B hs hB hbw way.toNat (by omega) bytes c d hc0 hc1 hd0 hd1
    rw [Int.toNat_of_nonneg hw.1] at this
    exact this
  · rw [if_neg hw, if_neg hw, if_neg hw]
    exact (r_send_noway w g way hw bytes c d).mono fun e w' k => ⟨k.1, by obtain ⟨_, rfl⟩ := k; exact didr_refl h⟩
theorem w_recv (w : World) (base g : Nat) (a : AN) (F : Nat → Prop) (h : IsA w base g a F) (B : Int) (hs : ASmall a B) (hB : B ≤ 100000) (way : Int) :
    Calls Try.prog 15 #[.pointer (some ⟨g, 0, none⟩), .int .i64 way] w fun e w' => e = .returned (.tuple #[.string (wRecS a way), .bool (wRecB a way)]) ∧ DidA w w' base g (wRec a way) F := by
  unfold wRecS wRec wRecB
  by_cases hw : 0 ≤ way ∧ way < 2
  · rw [if_pos hw, if_pos hw, if_pos hw]
    have := x_recv w base g a F h B hs hB way.toNat (by omega)
    rw [Int.toNat_of_nonneg hw.1] at this
    exact this
  · rw [if_neg hw, if_neg hw, if_neg hw]
    have h' := h
    obtain ⟨s, ha, vs, hv⟩ := h
    have e1 : mayB s.most way = false := by
      unfold mayB
      by_cases h0 : 0 ≤ way
      · rw [decide_eq_false (p := way < 2) (by omega), Bool.and_false]
      · rw [decide_eq_false h0, Bool.and_false, Bool.false_and]
    refine (recv_none w (some ⟨g, 0, none⟩) way (fun n => (may_calls (w.drewN n) g s.most way (isv_cell hv 0)).mono fun e w' k => ⟨by rw [k.1, e1], k.2⟩)).mono ?_
    rintro e w' ⟨rfl, m, rfl⟩
    exact ⟨rfl, dida_drewN h' m⟩
theorem w_rrecv (w : World) (base g : Nat) (a : AN) (F : Nat → Prop) (h : IsR w base g a F) (B : Int) (hs : ASmall a B) (hB : B ≤ 100000) (way : Int) :
    Calls Try.prog 18 #[.pointer (some ⟨g, 0, none⟩), .int .i64 way] w fun e w' => e = .returned (.tuple #[.string (wRecS a way), .bool (wRecB a way)]) ∧ DidR w w' base g (wRec a way) F := by
  unfold wRecS wRec wRecB
  by_cases hw : 0 ≤ way ∧ way < 2
  · rw [if_pos hw, if_pos hw, if_pos hw]
    have := x_rrecv w base g a F h B hs hB way.toNat (by omega)
    rw [Int.toNat_of_nonneg hw.1] at this
    exact this
  · rw [if_neg hw, if_neg hw, if_neg hw]
    exact (r_recv_noway w g way hw).mono fun e w' k => ⟨k.1, by obtain ⟨_, rfl⟩ := k; exact didr_refl h⟩
def actCells (x : S30) : Array Value := #[.int .u8 x.f0, .int .i64 x.f1, .string x.f2, .int .u8 x.f3.f0, .int .u8 x.f3.f1]
theorem act_cells {w : World} {b : Nat} {x : S30} (h : w.heap[b]? = some (.cells (actCells x) 30 (0, 0))) (i : Nat) : w.cell? ⟨b, i, none⟩ = (actCells x)[i]? := cell_of_row w b i _ 30 (0, 0) h
end Go.Proofs.Ytjdehmclcdiijaa.Hp
