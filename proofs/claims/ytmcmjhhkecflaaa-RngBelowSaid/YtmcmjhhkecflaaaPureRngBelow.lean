/- The number below any other one that any source tells, and the source behind it, are the document's. Conditions: none. -/
import Derived.Test.YtmcmjhhkecflaaaPRngBelowx1
import Derived.Test.YtmcmjhhkecflaaaBits
namespace Go.Proofs.Ytmcmjhhkecflaaa.Pure
open Go.RowKit Go.Proofs.Ytmcmjhhkecflaaa.PRngBelow Go.Proofs.YtmcmjhhkecflaaaW.PrintWords Go.Proofs.YtmcmjhhkecflaaaW.PrintLast Go.Proofs.YtmcmjhhkecflaaaW.PrintMore
open Go.Proofs.Ytmcmjhhkecflaaa.Mixing

theorem below_awake : hindcastlaw05_awake.f = some true := by decide +kernel

theorem below_mixN (a : Nat) (h : a < 18446744073709551616) : rng_Mix.f (a : Int) = some ((mixN a : Nat) : Int) := by
  unfold rng_Mix.f
  rw [mix_is a h]

theorem below_mix (a : Int) (h0 : 0 ≤ a) (h1 : a < 18446744073709551616) : ∃ m, rng_Mix.f a = some m ∧ 0 ≤ m ∧ m < 18446744073709551616 := by
  obtain ⟨n, rfl⟩ := Int.eq_ofNat_of_zero_le h0
  have h : n < 18446744073709551616 := by omega
  have hl := mixN_lt n
  exact ⟨_, below_mixN n h, by omega, by omega⟩

theorem below_skip (a : Int) : rng_Source_Skip.f a 1 = some (IntKind.u64.wrap (a + 11400714819323198485)) := by
  have e : IntKind.u64.wrap (1 * 11400714819323198485) = 11400714819323198485 := by decide +kernel
  unfold rng_Source_Skip.f
  rw [e]

theorem below_next (a : Int) : ∃ m, rng_Source_Next.f a = some (m, IntKind.u64.wrap (a + 11400714819323198485)) ∧ hindcastref05_Next.f a = some (m, IntKind.u64.wrap (a + 11400714819323198485)) ∧ 0 ≤ m ∧ m < 18446744073709551616 := by
  have hw : 0 ≤ IntKind.u64.wrap (a + 11400714819323198485) ∧ IntKind.u64.wrap (a + 11400714819323198485) < 18446744073709551616 := by rw [wrap_u64]; omega
  obtain ⟨m, h1, h0, h2⟩ := below_mix _ hw.1 hw.2
  have h3 : hindcastref05_Mix.f (IntKind.u64.wrap (a + 11400714819323198485)) = some m := h1
  refine ⟨m, ?_, ?_, h0, h2⟩
  · unfold rng_Source_Next.f
    rw [below_skip, Option.bind_some, h1, Option.bind_some]
  · unfold hindcastref05_Next.f hindcastref05_Stride.f
    rw [Option.bind_some, h3, Option.bind_some]

theorem below_num (m t : Int) (h0 : 0 ≤ m) (h1 : m < 18446744073709551616) (t0 : 1 ≤ t) (t1 : t ≤ 2147483648) :
    wrap64 (IntKind.u64.wrap (Int.tdiv (IntKind.u64.wrap ((IntKind.u64.wrap (Int.tdiv m 4294967296)) * t)) 4294967296)) = wrap64 ((IntKind.u64.wrap ((m / 4294967296) * t)) / 4294967296) := by
  have q : Int.tdiv m 4294967296 = m / 4294967296 := Int.tdiv_eq_ediv_of_nonneg h0
  have e1 : IntKind.u64.wrap (m / 4294967296) = m / 4294967296 := by rw [wrap_u64]; omega
  rw [q, e1]
  have b0 : 0 ≤ m / 4294967296 := by omega
  have b1 : m / 4294967296 ≤ 4294967295 := by omega
  generalize m / 4294967296 = x at *
  have p0 : 0 ≤ x * t := Int.mul_nonneg b0 (by omega)
  have p1 : x * t ≤ 4294967295 * 2147483648 := Int.mul_le_mul b1 t1 (by omega) (by omega)
  generalize x * t = y at *
  have e2 : IntKind.u64.wrap y = y := by rw [wrap_u64]; omega
  rw [e2, Int.tdiv_eq_ediv_of_nonneg p0]
  have e3 : IntKind.u64.wrap (y / 4294967296) = y / 4294967296 := by rw [wrap_u64]; omega
  rw [e3]

theorem below_below (a n : Int) (hn : n < 9223372036854775808) : ∃ m s, rng_Source_Below.f a n = some (m, s) ∧ hindcastref05_Below.f a n = some (m, s) := by
  unfold rng_Source_Below.f hindcastref05_Below.f
  by_cases h : n < 1
  · rw [if_pos h, if_pos h]; exact ⟨_, _, rfl, rfl⟩
  · rw [if_neg h, if_neg h]
    obtain ⟨m, h1, h2, m0, m1⟩ := below_next a
    rw [h1, h2]
    by_cases h3 : n > 2147483648
    · rw [if_pos h3]
      simp only [Option.bind_some]
      refine ⟨_, _, rfl, ?_⟩
      have e : mn n 2147483648 = 2147483648 := by unfold mn; rw [if_pos (by omega)]
      have e2 : IntKind.u64.wrap 2147483648 = 2147483648 := by decide +kernel
      rw [below_num m 2147483648 m0 m1 (by omega) (by omega), e, e2]
    · rw [if_neg h3]
      simp only [Option.bind_some]
      refine ⟨_, _, rfl, ?_⟩
      have e : mn n 2147483648 = n := by unfold mn; rw [if_neg (by omega)]
      have e2 : IntKind.u64.wrap n = n := by rw [wrap_u64]; omega
      rw [e, e2, below_num m n m0 m1 (by omega) (by omega)]

theorem RngBelow : hindcastlaw05_RngBelow.Pure := by
  intro a n _ hn
  have hn' : n < 9223372036854775808 := (wf_i64 hn).2
  obtain ⟨m, s, h1, h2⟩ := below_below a n hn'
  unfold hindcastlaw05_RngBelow.f
  rw [h1, h2, below_awake]
  simp only [Option.bind_some, if_true]

end Go.Proofs.Ytmcmjhhkecflaaa.Pure
