/- Behind so many calls a source is as it is by skipping them, and each call told the number of its place. Conditions: none. -/
import Derived.Test.YtmcmjhhkecflaaaHRngGoesx2
import Derived.Test.YtmcmjhhkecflaaaBits
namespace Go.Proofs.Ytmcmjhhkecflaaa.Pure
open Go.RowKit Go.Proofs.Ytmcmjhhkecflaaa.HRngGoes Go.Proofs.YtmcmjhhkecflaaaW.PrintWords Go.Proofs.YtmcmjhhkecflaaaW.PrintLast Go.Proofs.YtmcmjhhkecflaaaW.PrintMore
open Go.Proofs.Ytmcmjhhkecflaaa.Mixing

theorem goes_awake : hindcastlaw05_awake.f = some true := by decide +kernel

theorem goes_skip (a : Int) : rng_Source_Skip.f a 1 = some (IntKind.u64.wrap (a + 11400714819323198485)) := by
  have e : IntKind.u64.wrap (1 * 11400714819323198485) = 11400714819323198485 := by decide +kernel
  unfold rng_Source_Skip.f
  rw [e]

theorem goes_next (a m : Int) (h : rng_Mix.f (IntKind.u64.wrap (a + 11400714819323198485)) = some m) : rng_Source_Next.f a = some (m, IntKind.u64.wrap (a + 11400714819323198485)) := by
  unfold rng_Source_Next.f
  rw [goes_skip, Option.bind_some, h, Option.bind_some]

theorem goes_mix (a : Int) : ∃ m, rng_Mix.f a = some m := ⟨_, rfl⟩

/-- where a source is behind i calls. -/
def place (a b i : Int) : Int := IntKind.u64.wrap (a + (IntKind.u64.wrap ((IntKind.u64.wrap (b + i)) * 11400714819323198485)))

theorem place_skip (a b i : Int) : rng_Source_Skip.f a (IntKind.u64.wrap (b + i)) = some (place a b i) := rfl

theorem place_step (a b i : Int) : IntKind.u64.wrap (place a b i + 11400714819323198485) = place a b (IntKind.u64.wrap (i + 1)) := by
  unfold place
  rw [wrap_u64, wrap_u64, wrap_u64, wrap_u64, wrap_u64, wrap_u64, wrap_u64, wrap_u64]
  omega

theorem goes_loop (a b c : Int) (h0 : 0 ≤ c) (d : Nat) : ∀ (k : Nat) (i : Int), 0 ≤ i → i ≤ c % 300 → c % 300 - i = d → d < k →
    hindcastlaw05_RngGoes.l0 k a b c i (place a b i) = some true := by
  have e : Int.tmod c 300 = c % 300 := Int.tmod_eq_emod_of_nonneg h0
  have e2 : IntKind.u64.wrap (c % 300) = c % 300 := by rw [wrap_u64]; omega
  induction d with
  | zero =>
    intro k i i0 i1 hd hk
    obtain ⟨k, rfl⟩ : ∃ m, k = m + 1 := ⟨k - 1, by omega⟩
    have hi : i = c % 300 := by omega
    simp only [hindcastlaw05_RngGoes.l0]
    rw [e, e2, if_neg (by omega), place_skip, ← hi, goes_awake]
    simp only [Option.bind_some, beq_self_eq_true, if_true]
  | succ d ih =>
    intro k i i0 i1 hd hk
    obtain ⟨k, rfl⟩ : ∃ m, k = m + 1 := ⟨k - 1, by omega⟩
    have w1 : IntKind.u64.wrap (i + 1) = i + 1 := by rw [wrap_u64]; omega
    have hn := ih k (i + 1) (by omega) (by omega) (by omega) (by omega)
    have hp := place_step a b i
    rw [w1] at hp
    obtain ⟨m, hm⟩ := goes_mix (IntKind.u64.wrap (place a b i + 11400714819323198485))
    have hx := goes_next (place a b i) m hm
    simp only [hindcastlaw05_RngGoes.l0]
    rw [e, e2, if_pos (by omega), hx, w1]
    unfold rng_At.f
    rw [place_skip, Option.bind_some, Option.bind_some, hx, Option.bind_some, Option.bind_some, if_pos rfl, hp]
    exact hn

theorem RngGoes : hindcastlaw05_RngGoes.Pure := by
  intro a b c _ hb hc
  obtain ⟨b0, b1⟩ := wf_u64 hb
  have c0 : 0 ≤ c := by
    simp [Lit.wf, IntKind.min, IntKind.max, IntKind.signed, IntKind.bits] at hc
    omega
  refine ⟨(c % 300).toNat + 1, ?_⟩
  have e : rng_Source_Skip.f a b = some (place a b 0) := by
    have w : IntKind.u64.wrap (b + 0) = b := by rw [wrap_u64]; omega
    rw [← place_skip, w]
  unfold hindcastlaw05_RngGoes.f
  rw [e, Option.bind_some]
  exact goes_loop a b c c0 (c % 300).toNat _ 0 (by omega) (by omega) (by omega) (by omega)

end Go.Proofs.Ytmcmjhhkecflaaa.Pure
