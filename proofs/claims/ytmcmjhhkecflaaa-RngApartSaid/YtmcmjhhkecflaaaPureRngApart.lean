/- The mixes of two numbers are the same just if these are. Conditions: none. -/
import Derived.Test.YtmcmjhhkecflaaaPRngApartx1
import Derived.Test.YtmcmjhhkecflaaaBits
namespace Go.Proofs.Ytmcmjhhkecflaaa.Pure
open Go.RowKit Go.Proofs.Ytmcmjhhkecflaaa.PRngApart Go.Proofs.YtmcmjhhkecflaaaW.PrintWords Go.Proofs.YtmcmjhhkecflaaaW.PrintLast
open Go.Proofs.Ytmcmjhhkecflaaa.Mixing

theorem apart_awake : hindcastlaw05_awake.f = some true := by decide +kernel

theorem mix_nat (a : Nat) (h : a < 18446744073709551616) : rng_Mix.f (a : Int) = some ((mixN a : Nat) : Int) := by
  unfold rng_Mix.f
  rw [mix_is a h]

theorem apart_law (a b : Int) (x y : Int) (h1 : rng_Mix.f a = some x) (h2 : rng_Mix.f b = some y) (e : ((x == y) == (a == b)) = true) : hindcastlaw05_RngApart.f a b = some true := by
  unfold hindcastlaw05_RngApart.f
  rw [h1, h2, apart_awake]
  simp only [Option.bind_some]
  rw [if_pos e]

theorem apart_same (m n : Nat) (hm : m < 18446744073709551616) (hn : n < 18446744073709551616) : ((((mixN m : Nat) : Int) == ((mixN n : Nat) : Int)) == ((m : Int) == (n : Int))) = true := by
  by_cases h : m = n
  · subst h; simp
  · have h1 : ¬ mixN m = mixN n := fun e => h (mixN_tells m n hm hn e)
    have e1 : (((mixN m : Nat) : Int) == ((mixN n : Nat) : Int)) = false := by
      rw [beq_eq_false_iff_ne]; intro e; exact h1 (Int.ofNat.inj e)
    have e2 : ((m : Int) == (n : Int)) = false := by
      rw [beq_eq_false_iff_ne]; intro e; exact h (Int.ofNat.inj e)
    rw [e1, e2]; rfl

theorem RngApart : hindcastlaw05_RngApart.Pure := by
  intro a b ha hb
  obtain ⟨a0, a1⟩ := wf_u64 ha
  obtain ⟨b0, b1⟩ := wf_u64 hb
  obtain ⟨m, rfl⟩ := Int.eq_ofNat_of_zero_le a0
  obtain ⟨n, rfl⟩ := Int.eq_ofNat_of_zero_le b0
  have hm : m < 18446744073709551616 := by omega
  have hn : n < 18446744073709551616 := by omega
  exact apart_law _ _ _ _ (mix_nat m hm) (mix_nat n hn) (apart_same m n hm hn)

end Go.Proofs.Ytmcmjhhkecflaaa.Pure
