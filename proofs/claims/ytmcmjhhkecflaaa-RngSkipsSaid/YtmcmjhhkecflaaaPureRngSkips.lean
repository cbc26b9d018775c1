/- What any source is behind any count, and the number there, are the document's. Conditions: none. -/
import Derived.Test.YtmcmjhhkecflaaaHRngSkipsx1
import Derived.Test.YtmcmjhhkecflaaaBits
namespace Go.Proofs.Ytmcmjhhkecflaaa.Pure
open Go.RowKit Go.Proofs.Ytmcmjhhkecflaaa.HRngSkips Go.Proofs.YtmcmjhhkecflaaaW.PrintWords Go.Proofs.YtmcmjhhkecflaaaW.PrintLast Go.Proofs.YtmcmjhhkecflaaaW.PrintMore
open Go.Proofs.Ytmcmjhhkecflaaa.Mixing

theorem skips_awake : hindcastlaw05_awake.f = some true := by decide +kernel

theorem skips_skip (a : Int) : rng_Source_Skip.f a 1 = some (IntKind.u64.wrap (a + 11400714819323198485)) := by
  have e : IntKind.u64.wrap (1 * 11400714819323198485) = 11400714819323198485 := by decide +kernel
  unfold rng_Source_Skip.f
  rw [e]

theorem skips_next (a m : Int) (h : rng_Mix.f (IntKind.u64.wrap (a + 11400714819323198485)) = some m) : rng_Source_Next.f a = some (m, IntKind.u64.wrap (a + 11400714819323198485)) := by
  unfold rng_Source_Next.f
  rw [skips_skip, Option.bind_some, h, Option.bind_some]

theorem skips_mix (a : Int) : ∃ m, rng_Mix.f a = some m ∧ hindcastref05_Mix.f a = some m := ⟨_, rfl, rfl⟩

theorem RngSkips : hindcastlaw05_RngSkips.Pure := by
  intro a n _ _
  have hs : rng_Source_Skip.f a n = some (IntKind.u64.wrap (a + (IntKind.u64.wrap (n * 11400714819323198485)))) := rfl
  unfold hindcastlaw05_RngSkips.f rng_At.f
  rw [hs]
  unfold hindcastref05_Next.f hindcastref05_Stride.f
  simp only [Option.bind_some]
  generalize IntKind.u64.wrap (a + (IntKind.u64.wrap (n * 11400714819323198485))) = t
  obtain ⟨m, h1, h2⟩ := skips_mix (IntKind.u64.wrap (t + 11400714819323198485))
  rw [skips_next t m h1, h2, skips_awake]
  simp only [Option.bind_some, if_true]

end Go.Proofs.Ytmcmjhhkecflaaa.Pure
