/- The examples of the chapter: a closed statement. Conditions: the package-level table is as the program's text lays it (tied on the card). -/
import Derived.Test.YtbffgpfkgmhmhaaGreatDoorSMb
import Derived.Test.YtbffgpfkgmhmhaaGreatDoorSMf
import Derived.Test.YtbffgpfkgmhmhaaGreatDoorTie
import Derived.Test.YtbffgpfkgmhmhaaGreatDoorCards
import Derived.SevenTiedAt
set_option linter.unusedVariables false
namespace Go.Proofs.YtbffgpfkgmhmhaaGreatDoor.manifestKnown
open Go.ChangeShapes Go.WideShapes Go.ChangeAt Go.RowKit Go.Proofs.YtbffgpfkgmhmhaaGreatDoor.LaidAt Go.Proofs.YtbffgpfkgmhmhaaGreatDoor.Dw Go.Proofs.YtbffgpfkgmhmhaaGreatDoor.HM Go.Proofs.YtbffgpfkgmhmhaaGreatDoorW.PrintWords
theorem laidOut : laidOutB Tryz.prog = true := by kernel_rfl
set_option maxRecDepth 100000 in
theorem lifted (os : Os) (started : os.Started) (H : Type) (enc : TypeId × Value → H) :
    ReturnsInHanded {} Tryz.checked os 3 .any (fun w args => (Rows.manifestKnownSpec.pre enc Tryz.prog Tryz.f3 Rows.manifestKnownRow.domain false w args ∧ laidMet Tryz.prog [("hindcast/crc.steps", Rows.laid_hindcast_crc_steps)] w) ∧ sizedMet enc Tryz.prog Tryz.f3 (OpenSpec.ofChange Rows.manifestKnownSpec) false w args)
      (Rows.manifestKnownSpec.post enc Tryz.prog Tryz.f3 false true false false) := by
  refine returnsInHanded_of_change_and (C := Tryz.checked) (X := XL) XL_heap own started (by kernel_rfl) Tryz.func3
    (ChangeSpec.witness_at (enc := enc) (C := Tryz.checked) (os := os) (X := XL) false (laidWorld os) #[] 8 rfl (by kernel_rfl) (by kernel_rfl) (by kernel_rfl) (by kernel_rfl) (by kernel_rfl) (met os _)) ?_
  intro W base args ds gs before hval0 hW hcnd hsz0 hL _
  have hval : ∀ (j : Nat) t v, Tryz.f3.params[j]? = some t → args[j]? = some v → Value.okWide Tryz.prog W .any base t v := hval0
  have hW' := hW
  obtain ⟨p, q, hA0, hV, rfl, hfz, hnd⟩ := hW
  have hA : DataW.TrodAll enc Tryz.prog W 0 (fun _ => true) true Tryz.f3.params.toList args.toList ds p := hA0
  rw [Tryz.params3] at hA hval
  obtain ⟨rfl, rfl, rfl⟩ := trodAll_none hA
  obtain ⟨rfl, rfl⟩ := trodVars_none hV
  clear hA0 hval0 hsz0
  refine (known_calls W (laid_of hL)).mono fun e W' ⟨he, bel⟩ => ?_
  subst he
  exact ⟨_, rfl, _, _, _, [], _, [], hW', trodAll_mk1 (shut_bool Tryz.underlying4 _), trodAll_mk0, rfl, bel.frame _, fun h => by cases h⟩
theorem over : Rows.manifestKnownRow.holds Tryz.pinned (OpenSpec.ofChange Rows.manifestKnownSpec) :=
  OpenClaim.holds_of_wide 3 Tryz.f3 rfl rfl rfl rfl rfl rfl rfl ⟨rfl, rfl, rfl, rfl, rfl⟩ rfl rfl rfl rfl rfl (by kernel_rfl) Tryz.func3 (by kernel_rfl)
    (of_decide_eq_true (by kernel_rfl)) (by unfold Func.isWrapper; first | (rw [if_pos (by decide +kernel)]; kernel_rfl) | (rw [if_neg (by decide +kernel)]; exact ⟨rfl, rfl⟩))
    (fun os started H enc _ => lifted os started H enc)
theorem card : Rows.ManifestKnownCardSaid :=
  Claim7.holds_tied_plain_at .later [] [.data] true (true, "262c987275fa12c69ccfff59c8a6a4328d02da52af56910ef063df7ff799f9d5") false
    over (fun _ h => by cases h) (by kernel_rfl) (fun _ h => by cases h) manifestKnown_row_tie rfl ⟨rfl, rfl⟩ (by kernel_rfl) rfl
    (fun f fn hf hfn => by
      obtain rfl : f = 3 := Option.some.inj ((show Tryz.prog.funcNamed "hindcast/hindcastlaw17.ManifestKnown" = some 3 by kernel_rfl).symm.trans hf) |>.symm
      obtain rfl : fn = Tryz.f3 := (Option.some.inj (Tryz.func3.symm.trans hfn)).symm
      exact ⟨by kernel_rfl, fun j t ht => by
        rw [Tryz.params3] at ht
        simp at ht⟩)
    (by kernel_rfl)
#print axioms card
end Go.Proofs.YtbffgpfkgmhmhaaGreatDoor.manifestKnown
namespace Go.Proofs.YtbffgpfkgmhmhaaGreatDoor
/-- The card, under a short name, for the claim. -/
theorem manifestKnown_card_holds : Rows.ManifestKnownCardSaid := manifestKnown.card
end Go.Proofs.YtbffgpfkgmhmhaaGreatDoor
