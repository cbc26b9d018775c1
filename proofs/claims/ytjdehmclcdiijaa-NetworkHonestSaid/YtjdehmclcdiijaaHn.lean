/- Two networks side by side; sending and receiving, whatever is asked; acts that came in. -/
import Derived.Test.YtjdehmclcdiijaaHw
import Derived.Test.YtjdehmclcdiijaaPNetworkApartx1
set_option linter.unusedVariables false
namespace Go.Proofs.Ytjdehmclcdiijaa.Hp
open Go.RowKit Go.Proofs.YtjdehmclcdiijaaW.PrintWords Go.Proofs.YtjdehmclcdiijaaW.PrintLast Go.Proofs.YtjdehmclcdiijaaW.PrintMore Go.Proofs.Ytjdehmclcdiijaa.PNetworkApart

theorem dida_refl {w : World} {base g : Nat} {a : AN} {F : Nat → Prop} (h : IsA w base g a F) : DidA w w base g a F := ⟨F, h, fun k hk => Or.inl hk, Kept.refl _ _, Below.refl _ _⟩
theorem dida_drewN {w : World} {base g : Nat} {a : AN} {F : Nat → Prop} (h : IsA w base g a F) (m : Nat) : DidA w (w.drewN m) base g a F := ⟨F, h, fun k hk => Or.inl hk, (Kept.refl _ _).drewN m, pw_below_drewN (Below.refl _ _) m⟩
theorem dida_alloc {w : World} {base g : Nat} {a : AN} {F : Nat → Prop} (h : IsA w base g a F) (hb : base ≤ w.heap.size) (o : Obj) : DidA w (w.alloc o) base g a F :=
  ⟨F, isa_kept h ((Kept.refl w (fun _ => False)).alloc o) (fun _ _ hf => hf), fun k hk => Or.inl hk, (Kept.refl _ _).alloc o, (Below.refl _ _).alloc hb o⟩

/-- What Send makes of a network at a way, and its two answers. -/
def aSend (a : AN) (o : Nat) (bytes : ByteArray) (c d : Int) : AN := if bytes.size ≤ 4102 then (asendS a o bytes c d).1 else a
def aSendK (a : AN) (o : Nat) (bytes : ByteArray) (c d : Int) : Int := if bytes.size ≤ 4102 then (asendS a o bytes c d).2 else 0
def aSendE (bytes : ByteArray) : Int := if bytes.size ≤ 4102 then 0 else 3
theorem x_send (w : World) (base g : Nat) (a : AN) (F : Nat → Prop) (h : IsA w base g a F) (B : Int) (hs : ASmall a B) (hB : B ≤ 100000) (hbw : base ≤ w.heap.size) (o : Nat) (ho : o < 2) (bytes : ByteArray) (c d : Int) (hc0 : 0 ≤ c) (hc1 : c < 256) (hd0 : 0 ≤ d) (hd1 : d < 256) :
    Calls Try.prog 10 #[.pointer (some ⟨g, 0, none⟩), .int .i64 o, .string bytes, .agg #[.int .u8 c, .int .u8 d]] w fun e w' =>
      e = .returned (.tuple #[.int .i64 (aSendK a o bytes c d), .int .i64 (aSendE bytes)]) ∧ DidA w w' base g (aSend a o bytes c d) F := by
  unfold aSendK aSend aSendE
  by_cases hl : bytes.size ≤ 4102
  · rw [if_pos hl, if_pos hl, if_pos hl]
    exact a_send w base g a F h B hs hB hbw o ho bytes hl c d hc0 hc1 hd0 hd1
  · rw [if_neg hl, if_neg hl, if_neg hl]
    have h' := h
    obtain ⟨s, ha, hn⟩ := h
    refine (send_long w base g s F hn (abs_small ha hs).most0 o ⟨by omega, by omega⟩ bytes (by omega) c d).mono ?_
    rintro e w' ⟨rfl, ob, rfl⟩
    exact ⟨rfl, dida_alloc h' hbw ob⟩
theorem aSend_small {a : AN} {B : Int} (h : ASmall a B) (o : Nat) (bytes : ByteArray) (c d : Int) : ASmall (aSend a o bytes c d) (B + 4) := by
  unfold aSend
  split
  · exact (asendS_small h o bytes c d).1
  · exact asmall_mono h (by omega)
/-- What 'got' makes of a network, and its answer. -/
def agotS (a : AN) (o : Nat) : AN := if aready a o = true then arecv a o else a
def agot (a : AN) (o : Nat) : ByteArray := if aready a o = true then atop a o else dash
theorem x_got (w : World) (base g : Nat) (a : AN) (F : Nat → Prop) (h : IsA w base g a F) (B : Int) (hs : ASmall a B) (hB : B ≤ 100000) (o : Nat) (ho : o < 2) :
    Calls Try.prog 11 #[.pointer (some ⟨g, 0, none⟩), .int .i64 o] w fun e w' => e = .returned (.string (agot a o)) ∧ DidA w w' base g (agotS a o) F := by
  unfold agot agotS
  by_cases hr : aready a o = true
  · rw [if_pos hr, if_pos hr]
    exact l_got w base g a F h B hs hB o ho hr
  · rw [if_neg hr, if_neg hr]
    refine (l_got_not w base g a F h hs.most0 o ho (by cases hb : aready a o <;> simp_all)).mono ?_
    rintro e w' ⟨rfl, m, rfl⟩
    exact ⟨rfl, dida_drewN h m⟩
theorem agotS_small {a : AN} {B : Int} (h : ASmall a B) (o : Nat) : ASmall (agotS a o) (B + 4) := by
  unfold agotS
  split
  · exact asmall_mono (arecv_small h o) (by omega)
  · exact asmall_mono h (by omega)

/-- Two networks that share no block. -/
structure Two (w : World) (base g1 g2 : Nat) (a b : AN) (Fa Fb : Nat → Prop) : Prop where
  l : IsA w base g1 a Fa
  r : IsA w base g2 b Fb
  apart : ∀ k, Fa k → ¬ Fb k
theorem two_left {w w' : World} {base g1 g2 : Nat} {a b a' : AN} {Fa Fb : Nat → Prop} (h : Two w base g1 g2 a b Fa Fb) (k : DidA w w' base g1 a' Fa) : (∃ Fa', Two w' base g1 g2 a' b Fa' Fb) ∧ Below base w w' := by
  obtain ⟨F', k1, k2, k3, k4⟩ := k
  refine ⟨⟨F', k1, isa_kept h.r k3 (fun i hb ha => h.apart i ha hb), fun i hi hb => ?_⟩, k4⟩
  rcases k2 i hi with hf | hf
  · exact h.apart i hf hb
  · have := ((isa_foot h.r).2 i hb).2; omega
theorem two_right {w w' : World} {base g1 g2 : Nat} {a b b' : AN} {Fa Fb : Nat → Prop} (h : Two w base g1 g2 a b Fa Fb) (k : DidA w w' base g2 b' Fb) : (∃ Fb', Two w' base g1 g2 a b' Fa Fb') ∧ Below base w w' := by
  obtain ⟨F', k1, k2, k3, k4⟩ := k
  refine ⟨⟨F', isa_kept h.l k3 (fun i ha hb => h.apart i ha hb), k1, fun i ha hi => ?_⟩, k4⟩
  rcases k2 i hi with hf | hf
  · exact h.apart i ha hf
  · have := ((isa_foot h.l).2 i ha).2; omega

/-! few. -/
theorem few_run (l : List S30) : ∀ (n : Nat) (x3 : Int) (k : Nat), 0 ≤ x3 → (n : Int) = 200 - x3 → 2 * n + 2 ≤ k → ∃ r, hindcastlaw22_few.l0 k l x3 = some r ∧ (r = true → l.length ≤ 150)
  | n, x3, k, h0, hn, hk => by
    obtain ⟨k1, rfl⟩ : ∃ k1, k = k1 + 2 := ⟨k - 2, by omega⟩
    rw [hindcastlaw22_few.l0]
    by_cases hlt : x3 < (l.length : Int)
    · rw [if_pos hlt, hindcastlaw22_few.j1]
      by_cases h2 : x3 < 200
      · rw [decide_eq_true h2, if_pos rfl, if_pos h0, if_pos hlt]
        split
        · exact ⟨false, rfl, fun h => by cases h⟩
        · obtain ⟨n', rfl⟩ : ∃ n', n = n' + 1 := ⟨n - 1, by omega⟩
          have hw : wrap64 (x3 + 1) = x3 + 1 := by unfold wrap64; omega
          rw [hw]
          exact few_run l n' (x3 + 1) k1 (by omega) (by omega) (by omega)
      · rw [decide_eq_false h2, if_neg Bool.false_ne_true]
        exact ⟨_, rfl, fun h => by have := of_decide_eq_true h; omega⟩
    · rw [if_neg hlt, hindcastlaw22_few.j1, if_neg Bool.false_ne_true]
      exact ⟨_, rfl, fun h => by have := of_decide_eq_true h; omega⟩
theorem few_calls (A0 : Option Addr) (c0 : Nat) (l : List S30) (w : World) (hr0 : Kd.C k30 w A0 l.length l) (hc0 : l.length ≤ c0) :
    ∃ r, (r = true → l.length ≤ 150) ∧ Calls Try.prog 8 #[.slice A0 l.length c0] w fun e w' => e = .returned (.bool r) ∧ ∃ m, w' = w.drewN m := by
  obtain ⟨r, h1, h2⟩ := few_run l 200 0 402 (by omega) (by omega) (by omega)
  refine ⟨r, h2, (hindcastlaw22_few.calls 402 A0 c0 l r w hr0 hc0 h1).mono ?_⟩
  rintro e w' ⟨rfl, hd⟩
  exact ⟨rfl, hd.out⟩

/-- An act of those that came in, in a later world. -/
theorem act_at {w : World} {A : Option Addr} {n : Nat} {l : List S30} (h : Kd.C k30 w A n l) {i : Nat} (hi : i < n) : ∃ ad, A = some ad ∧ ∀ w', Below w.heap.size w w' →
    w'.cell? (ad.add (i * 5)) = some (.int .u8 (rd_T30 l i).f0) ∧ w'.cell? ⟨(ad.add (i * 5)).block, (ad.add (i * 5)).off + 1, none⟩ = some (.int .i64 (rd_T30 l i).f1) ∧ w'.cell? ⟨(ad.add (i * 5)).block, (ad.add (i * 5)).off + 2, none⟩ = some (.string (rd_T30 l i).f2) ∧
    w'.cell? ⟨(ad.add (i * 5)).block, (ad.add (i * 5)).off + 3, none⟩ = some (.int .u8 (rd_T30 l i).f3.f0) ∧ w'.cell? ⟨(ad.add (i * 5)).block, (ad.add (i * 5)).off + 4, none⟩ = some (.int .u8 (rd_T30 l i).f3.f1) := by
  obtain ⟨ad, hA, h0, h1, h2, h3, h4⟩ := at_T30 h i (by omega) (by omega)
  simp only [Int.toNat_natCast] at h0 h1 h2 h3 h4
  refine ⟨ad, hA, fun w' hb => ?_⟩
  have hlt := World.block_lt_of_cell? w _ h0
  refine ⟨(hb.cell hlt).trans h0, (hb.cell ?_).trans h1, (hb.cell ?_).trans h2, (hb.cell ?_).trans h3, (hb.cell ?_).trans h4⟩ <;> exact hlt
end Go.Proofs.Ytjdehmclcdiijaa.Hp
