/- A number that any source tells below another one is below it and not below 0, and the source moves by one; below no number it is 0, and the source stays. Conditions: none. -/
import Derived.Test.YtmcmjhhkecflaaaPRngWithinx3
import Derived.Test.YtmcmjhhkecflaaaBits
namespace Go.Proofs.Ytmcmjhhkecflaaa.Pure
open Go.RowKit Go.Proofs.Ytmcmjhhkecflaaa.PRngWithin Go.Proofs.YtmcmjhhkecflaaaW.PrintWords Go.Proofs.YtmcmjhhkecflaaaW.PrintLast Go.Proofs.YtmcmjhhkecflaaaW.PrintMore
open Go.Proofs.Ytmcmjhhkecflaaa.Mixing

theorem within_awake : hindcastlaw05_awake.f = some true := by decide +kernel

theorem within_mixN (a : Nat) (h : a < 18446744073709551616) : rng_Mix.f (a : Int) = some ((mixN a : Nat) : Int) := by
  unfold rng_Mix.f
  rw [mix_is a h]

theorem within_mix (a : Int) (h0 : 0 ≤ a) (h1 : a < 18446744073709551616) : ∃ m, rng_Mix.f a = some m ∧ 0 ≤ m ∧ m < 18446744073709551616 := by
  obtain ⟨n, rfl⟩ := Int.eq_ofNat_of_zero_le h0
  have h : n < 18446744073709551616 := by omega
  have hl := mixN_lt n
  exact ⟨_, within_mixN n h, by omega, by omega⟩

theorem within_skip (a : Int) : rng_Source_Skip.f a 1 = some (IntKind.u64.wrap (a + 11400714819323198485)) := by
  have e : IntKind.u64.wrap (1 * 11400714819323198485) = 11400714819323198485 := by decide +kernel
  unfold rng_Source_Skip.f
  rw [e]

theorem within_next (a : Int) : ∃ m, rng_Source_Next.f a = some (m, IntKind.u64.wrap (a + 11400714819323198485)) ∧ 0 ≤ m ∧ m < 18446744073709551616 := by
  have hw : 0 ≤ IntKind.u64.wrap (a + 11400714819323198485) ∧ IntKind.u64.wrap (a + 11400714819323198485) < 18446744073709551616 := by rw [wrap_u64]; omega
  obtain ⟨m, h1, h0, h2⟩ := within_mix _ hw.1 hw.2
  refine ⟨m, ?_, h0, h2⟩
  unfold rng_Source_Next.f
  rw [within_skip, Option.bind_some, h1, Option.bind_some]

theorem within_num (m t : Int) (h0 : 0 ≤ m) (h1 : m < 18446744073709551616) (t0 : 1 ≤ t) (t1 : t ≤ 2147483648) :
    0 ≤ wrap64 ((IntKind.u64.wrap ((m / 4294967296) * t)) / 4294967296) ∧ wrap64 ((IntKind.u64.wrap ((m / 4294967296) * t)) / 4294967296) < t := by
  have b0 : 0 ≤ m / 4294967296 := by omega
  have b1 : m / 4294967296 ≤ 4294967295 := by omega
  generalize m / 4294967296 = x at *
  have p0 : 0 ≤ x * t := Int.mul_nonneg b0 (by omega)
  have p1 : x * t ≤ 4294967295 * t := Int.mul_le_mul b1 (Int.le_refl t) (by omega) (by omega)
  generalize x * t = y at *
  have e2 : IntKind.u64.wrap y = y := by rw [wrap_u64]; omega
  rw [e2]
  unfold wrap64
  omega

theorem within_below (a n : Int) (h : ¬ n < 1) (hn : n < 9223372036854775808) : ∃ m, rng_Source_Below.f a n = some (m, IntKind.u64.wrap (a + 11400714819323198485)) ∧ 0 ≤ m ∧ m < n := by
  unfold rng_Source_Below.f
  rw [if_neg h]
  obtain ⟨m, h1, m0, m1⟩ := within_next a
  rw [h1]
  simp only [Option.bind_some]
  refine ⟨_, rfl, ?_⟩
  by_cases h3 : n > 2147483648
  · have e : mn n 2147483648 = 2147483648 := by unfold mn; rw [if_pos (by omega)]
    have e2 : IntKind.u64.wrap 2147483648 = 2147483648 := by decide +kernel
    have hh := within_num m 2147483648 m0 m1 (by omega) (by omega)
    rw [e, e2]
    omega
  · have e : mn n 2147483648 = n := by unfold mn; rw [if_neg (by omega)]
    have e2 : IntKind.u64.wrap n = n := by rw [wrap_u64]; omega
    rw [e, e2]
    exact within_num m n m0 m1 (by omega) (by omega)

theorem RngWithin : hindcastlaw05_RngWithin.Pure := by
  intro a n _ hn
  have hn' : n < 9223372036854775808 := (wf_i64 hn).2
  unfold hindcastlaw05_RngWithin.f
  rw [within_awake]
  by_cases h : n < 1
  · have e : rng_Source_Below.f a n = some (0, a) := by unfold rng_Source_Below.f; rw [if_pos h]
    rw [e]
    simp only [Option.bind_some, if_true, if_pos h]
  · obtain ⟨m, h1, h2, h3⟩ := within_below a n h hn'
    rw [h1, within_skip]
    generalize IntKind.u64.wrap (a + 11400714819323198485) = s at *
    simp only [Option.bind_some, if_neg h, ge_iff_le, if_pos h2, if_pos h3, beq_self_eq_true, if_true]

end Go.Proofs.Ytmcmjhhkecflaaa.Pure
