/- The number that any source tells next, the source behind it, and the mix of any number are the document's. Conditions: none. -/
import Derived.Test.YtmcmjhhkecflaaaPRngNextx1
namespace Go.Proofs.Ytmcmjhhkecflaaa.Pure
open Go.RowKit Go.Proofs.Ytmcmjhhkecflaaa.PRngNext Go.Proofs.YtmcmjhhkecflaaaW.PrintWords Go.Proofs.YtmcmjhhkecflaaaW.PrintLast

theorem next_awake : hindcastlaw05_awake.f = some true := by decide +kernel

theorem next_mix (a : Int) : ∃ m, rng_Mix.f a = some m ∧ hindcastref05_Mix.f a = some m := ⟨_, rfl, rfl⟩

theorem next_skip (a : Int) : rng_Source_Skip.f a 1 = some (IntKind.u64.wrap (a + 11400714819323198485)) := by
  have e : IntKind.u64.wrap (1 * 11400714819323198485) = 11400714819323198485 := by decide +kernel
  unfold rng_Source_Skip.f
  rw [e]

theorem next_next (a : Int) : ∃ m s, rng_Source_Next.f a = some (m, s) ∧ hindcastref05_Next.f a = some (m, s) := by
  obtain ⟨m, h1, h2⟩ := next_mix (IntKind.u64.wrap (a + 11400714819323198485))
  refine ⟨m, IntKind.u64.wrap (a + 11400714819323198485), ?_, ?_⟩
  · unfold rng_Source_Next.f
    rw [next_skip, Option.bind_some, h1, Option.bind_some]
  · unfold hindcastref05_Next.f hindcastref05_Stride.f
    rw [Option.bind_some, h2, Option.bind_some]

theorem RngNext : hindcastlaw05_RngNext.Pure := by
  intro a _
  obtain ⟨m, s, h1, h2⟩ := next_next a
  obtain ⟨n, h3, h4⟩ := next_mix a
  unfold hindcastlaw05_RngNext.f
  rw [h1, h2, h3, h4, next_awake]
  simp only [Option.bind_some, if_true]

end Go.Proofs.Ytmcmjhhkecflaaa.Pure
