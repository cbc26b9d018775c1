/- The statements' small functions: sent, got, works. -/
import Derived.Test.YtjdehmclcdiijaaHa
set_option linter.unusedVariables false
namespace Go.Proofs.Ytjdehmclcdiijaa.Hp
open Go.RowKit Go.Proofs.YtjdehmclcdiijaaW.PrintWords Go.Proofs.YtjdehmclcdiijaaW.PrintLast Go.Proofs.YtjdehmclcdiijaaW.PrintMore

theorem sent_of (w : World) (p : Option Addr) (way : Int) (bytes : ByteArray) (c d k e : Int) (R : World → Prop) (he0 : 0 ≤ e) (he1 : e < 100)
    (h : Calls Try.prog 10 #[.pointer p, .int .i64 way, .string bytes, .agg #[.int .u8 c, .int .u8 d]] w fun e' w' => e' = .returned (.tuple #[.int .i64 k, .int .i64 e]) ∧ R w') :
    Calls Try.prog 20 #[.pointer p, .int .i64 way, .string bytes, .int .u8 c, .int .u8 d] w fun e' w' => e' = .returned (.int .i64 (if e = 0 then k else -e)) ∧ R w' := by
  have H := Lib.hid h
  clear h
  by_cases h0 : e = 0
  · subst h0
    rw [if_pos rfl]
    go_enter Try.func20, Try.ntmps20
    go_wp2_with fail
    refine (H.out).mono ?_
    rintro e' w2 ⟨rfl, hR⟩
    go_wp2
    go_ret
    exact ⟨rfl, hR⟩
  · rw [if_neg h0]
    have hn : (e == 0) = false := by simp [h0]
    have hneg : IntKind.i64.wrap (-e) = -e := IntWalk.i64_in _ (by omega)
    go_enter Try.func20, Try.ntmps20
    go_wp2_with fail
    refine (H.out).mono ?_
    rintro e' w2 ⟨rfl, hR⟩
    go_wp2
    go_ret
    exact ⟨rfl, hR⟩
def dash : ByteArray := ⟨#[45]⟩
theorem got_of (w : World) (p : Option Addr) (way : Int) (s : ByteArray) (b : Bool) (R : World → Prop) (hs : b = false → s.size ≤ 100000)
    (h : Calls Try.prog 15 #[.pointer p, .int .i64 way] w fun e' w' => e' = .returned (.tuple #[.string s, .bool b]) ∧ R w') :
    Calls Try.prog 11 #[.pointer p, .int .i64 way] w fun e' w' => e' = .returned (.string (if b then s else dash ++ s)) ∧ R w' := by
  have H := Lib.hid h
  clear h
  cases b
  · rw [if_neg Bool.false_ne_true]
    have hs1 := hs rfl
    have hs2 : ¬ 9223372036854775807 < 1 + s.size := by omega
    go_enter Try.func11, Try.ntmps11
    go_wp2_with fail
    refine (H.out).mono ?_
    rintro e' w2 ⟨rfl, hR⟩
    go_wp2
    go_ret
    exact ⟨rfl, hR⟩
  · rw [if_pos rfl]
    go_enter Try.func11, Try.ntmps11
    go_wp2_with fail
    refine (H.out).mono ?_
    rintro e' w2 ⟨rfl, hR⟩
    go_wp2
    go_ret
    exact ⟨rfl, hR⟩

def sA : ByteArray := ⟨#[97]⟩
def sB : ByteArray := ⟨#[98]⟩
def sC : ByteArray := ⟨#[99]⟩
def wA0 : AN := afresh 2
def wA1 : AN := (asendS wA0 0 sA 1 1).1
def wA2 : AN := (asendS wA1 0 sB 1 0).1
def wA3 : AN := (asendS wA2 0 sC 1 0).1
def wA4 : AN := arecv wA3 0
theorem w0s : ASmall wA0 0 := afresh_small (by omega) (by omega)
theorem w1s : ASmall wA1 4 := (asendS_small w0s _ _ _ _).1
theorem w2s : ASmall wA2 8 := (asendS_small w1s _ _ _ _).1
theorem w3s : ASmall wA3 12 := (asendS_small w2s _ _ _ _).1
theorem w4s : ASmall wA4 13 := arecv_small w3s _

/-- A call of 'sent' on a network that is there. -/
theorem l_sent (w : World) (base g : Nat) (a : AN) (F : Nat → Prop) (h : IsA w base g a F) (B : Int) (hs : ASmall a B) (hB : B ≤ 100000) (hbw : base ≤ w.heap.size) (o : Nat) (ho : o < 2) (bytes : ByteArray) (hl : bytes.size ≤ 4102) (c d : Int) (hc0 : 0 ≤ c) (hc1 : c < 256) (hd0 : 0 ≤ d) (hd1 : d < 256) :
    Calls Try.prog 20 #[.pointer (some ⟨g, 0, none⟩), .int .i64 o, .string bytes, .int .u8 c, .int .u8 d] w fun e w' => e = .returned (.int .i64 (asendS a o bytes c d).2) ∧ DidA w w' base g (asendS a o bytes c d).1 F :=
  (sent_of w _ o bytes c d _ 0 _ (by omega) (by omega) (a_send w base g a F h B hs hB hbw o ho bytes hl c d hc0 hc1 hd0 hd1)).mono fun e w' h => ⟨by rw [h.1, if_pos rfl], h.2⟩
theorem l_got (w : World) (base g : Nat) (a : AN) (F : Nat → Prop) (h : IsA w base g a F) (B : Int) (hs : ASmall a B) (hB : B ≤ 100000) (o : Nat) (ho : o < 2) (hr : aready a o = true) :
    Calls Try.prog 11 #[.pointer (some ⟨g, 0, none⟩), .int .i64 o] w fun e w' => e = .returned (.string (atop a o)) ∧ DidA w w' base g (arecv a o) F :=
  (got_of w _ o _ _ _ (fun e => by cases e) (a_recv w base g a F h B hs hB o ho hr)).mono fun e w' h => ⟨by rw [h.1, if_pos rfl], h.2⟩
theorem l_got_not (w : World) (base g : Nat) (a : AN) (F : Nat → Prop) (h : IsA w base g a F) (hm : 0 < a.most) (o : Nat) (ho : o < 2) (hr : aready a o = false) :
    Calls Try.prog 11 #[.pointer (some ⟨g, 0, none⟩), .int .i64 o] w fun e w' => e = .returned (.string dash) ∧ ∃ m, w' = w.drewN m :=
  (got_of w _ o _ _ _ (fun _ => by decide) (a_recv_not w base g a F h hm o ho hr)).mono fun e w' h => ⟨by rw [h.1]; rfl, h.2⟩
theorem isa_drewN {w : World} {base g : Nat} {a : AN} {F : Nat → Prop} (h : IsA w base g a F) (n : Nat) : IsA (w.drewN n) base g a F := h

theorem works_calls (w : World) : Calls Try.prog 9 #[] w fun e w' => e = .returned (.bool true) ∧ Below w.heap.size w w' := by
  have HN := Lib.hid (a_new w w.heap.size (Nat.le_refl _) 2 (by omega) (by omega))
  go_enter Try.func9, Try.ntmps9
  go_wp2_with fail
  refine (HN.out).mono ?_
  rintro e w1 ⟨rfl, hA1, _, hB1⟩
  have e1 : (asendS wA0 0 sA 1 1).2 = 1 := rfl
  have e2 : (asendS wA1 0 sB 1 0).2 = 1 := rfl
  have e3 : (asendS wA2 0 sC 1 0).2 = 0 := rfl
  have e4 : aready wA3 0 = true := rfl
  have e5 : atop wA3 0 = sB := rfl
  have e6 : aready wA4 0 = false := rfl
  have E := Lib.hid (And.intro e1 (And.intro e2 (And.intro e3 (And.intro e4 (And.intro e5 e6)))))
  clear e1 e2 e3 e4 e5 e6
  have H1 := l_sent w1 w.heap.size w.heap.size wA0 _ hA1 0 w0s (by omega) hB1.size 0 (by omega) sA (by decide) 1 1 (by omega) (by omega) (by omega) (by omega)
  rw [E.out.1] at H1
  have G1 := Lib.hid H1
  have HB1 := Lib.hid hB1
  clear hA1 hB1 H1
  go_wp2_with fail
  refine (G1.out).mono ?_
  rintro e w2 ⟨rfl, F2, hA2, _, _, hB2⟩
  have HB2 := Lib.hid (HB1.out.trans hB2)
  have H2 := l_sent w2 w.heap.size w.heap.size wA1 _ hA2 4 w1s (by omega) HB2.out.size 0 (by omega) sB (by decide) 1 0 (by omega) (by omega) (by omega) (by omega)
  rw [E.out.2.1] at H2
  have G2 := Lib.hid H2
  clear hA2 hB2 H2
  go_wp2_with fail
  refine (G2.out).mono ?_
  rintro e w3 ⟨rfl, F3, hA3, _, _, hB3⟩
  have HB3 := Lib.hid (HB2.out.trans hB3)
  have H3 := l_sent w3 w.heap.size w.heap.size wA2 _ hA3 8 w2s (by omega) HB3.out.size 0 (by omega) sC (by decide) 1 0 (by omega) (by omega) (by omega) (by omega)
  rw [E.out.2.2.1] at H3
  have G3 := Lib.hid H3
  clear hA3 hB3 H3
  go_wp2_with fail
  refine (G3.out).mono ?_
  rintro e w4 ⟨rfl, F4, hA4, _, _, hB4⟩
  have HB4 := Lib.hid (HB3.out.trans hB4)
  have H4 := l_got w4 w.heap.size w.heap.size wA3 _ hA4 12 w3s (by omega) 0 (by omega) E.out.2.2.2.1
  rw [E.out.2.2.2.2.1] at H4
  have G4 := Lib.hid H4
  clear hA4 hB4 H4
  go_wp2_with fail
  refine (G4.out).mono ?_
  rintro e w5 ⟨rfl, F5, hA5, _, _, hB5⟩
  have HB5 := Lib.hid (HB4.out.trans hB5)
  have H5 := l_got_not w5 w.heap.size w.heap.size wA4 _ hA5 (by have := w4s.most0; exact this) 0 (by omega) E.out.2.2.2.2.2
  have G5 := Lib.hid H5
  clear hA5 hB5 H5
  unfold sB
  go_wp2_with fail
  refine (G5.out).mono ?_
  rintro e w6 ⟨rfl, m, rfl⟩
  unfold dash
  go_wp2
  go_ret
  exact ⟨rfl, pw_below_drewN HB5.out m⟩
end Go.Proofs.Ytjdehmclcdiijaa.Hp
