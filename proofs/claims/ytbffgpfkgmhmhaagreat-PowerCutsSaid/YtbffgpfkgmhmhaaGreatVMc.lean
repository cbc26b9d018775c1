/- Append (function 29). -/
import Derived.Test.YtbffgpfkgmhmhaaGreatVMb
import Derived.Laws.LoneSync
import Derived.Defers
import Derived.RegionCalls
import Derived.Conc.MuLone
import Derived.Lib.SliceRun
import Derived.Deep.QuietTactic
set_option linter.unusedVariables false
set_option linter.unusedSimpArgs false
namespace Go.Proofs.YtbffgpfkgmhmhaaGreat.Dw
open Go.RowKit Go.Maps Go.Proofs.YtbffgpfkgmhmhaaGreatW.PrintWords Go.Proofs.YtbffgpfkgmhmhaaGreatW.PrintLast Go.Proofs.YtbffgpfkgmhmhaaGreatW.PrintMore Go.Proofs.Dk
set_option maxRecDepth 100000
theorem append_bad (q : Nat) (l : FS) {n b : Tx} (h : nameOk n = false) : append q l n b = (l, 2) := by
  simp [Dk.append, h]
theorem append_none (q : Nat) {L : Lf} {n b : Tx} (h : nameOk n = true) (hg : get L n = none) : append q (fs L) n b = (fs L, 5) := by
  have := fs_get L n
  rw [hg] at this
  simp [Dk.append, h, this]
theorem append_full (q : Nat) {L : Lf} {n b : Tx} (h : nameOk n = true) {p : Nat × Fl} (hg : get L n = some p) (hf : 65536 < p.2.b.length + b.length ∨ q < used (fs L) + b.length) : append q (fs L) n b = (fs L, 7) := by
  have := fs_get L n
  rw [hg] at this
  simp [Dk.append, h, this, hf]
theorem append_fits (q : Nat) {L : Lf} {n b : Tx} (h : nameOk n = true) {p : Nat × Fl} (hg : get L n = some p) (hf : ¬ (65536 < p.2.b.length + b.length ∨ q < used (fs L) + b.length)) : append q (fs L) n b = (upd (fs L) n (fun f => ⟨f.b ++ b, f.s⟩), 0) := by
  have := fs_get L n
  rw [hg] at this
  simp [Dk.append, h, this, hf]
theorem bs_append (a b : Tx) : bs a ++ bs b = bs (a ++ b) := by
  apply ByteArray.ext
  simp [bs, ByteArray.data_append]
set_option maxHeartbeats 2000000 in
theorem append_turn (w : World) {base d mb q : Nat} {L : Lf} (hD : IsD w base d mb q L) (n b : Tx) (hb : b.length ≤ 100000) :
    Calls Tryz.prog 36 #[.pointer (some ⟨d, 0, none⟩), .string (bs n), .string (bs b)] w (DidT w base d mb q L (append q (fs L) n b)) := by
  have HF := Lib.hid (find0_calls w hD n)
  have HD := Lib.hid hD
  clear hD
  go_enter Tryz.func36, Tryz.ntmps36
  go_wp2_with fail
  refine HF.out.mono ?_
  rintro e w2 ⟨rfl, hB2⟩
  have HB2 := Lib.hid hB2
  have HD2 := Lib.hid (HD.out.below HB2.out)
  have HB3 := Lib.hid (HB2.out.mono HD.out.size)
  clear hB2 HF
  cases hok : nameOk n with
  | false =>
    obtain ⟨h1, h2⟩ := fe_bad L hok
    have hr := Lib.hid (append_bad q (fs L) (b := b) hok)
    rw [h1, h2]
    clear h1 h2 hok
    go_wp2_with fail
    go_ret
    exact ⟨by rw [hr.out]; rfl, HB3.out, L, by rw [hr.out], HD2.out, .of_below HB2.out mb L⟩
  | true =>
    cases hg : get L n with
    | none =>
      obtain ⟨h1, h2⟩ := fe_none hok hg
      have hr := Lib.hid (append_none q (b := b) hok hg)
      rw [h1, h2]
      clear h1 h2 hok hg
      go_wp2_with fail
      go_ret
      exact ⟨by rw [hr.out]; rfl, HB3.out, L, by rw [hr.out], HD2.out, .of_below HB2.out mb L⟩
    | some p =>
      obtain ⟨h1, h2⟩ := fe_some hok hg
      have hfull := Lib.hid (append_full q (b := b) hok hg)
      have hfits := Lib.hid (append_fits q (b := b) hok hg)
      have HG := Lib.hid hg
      have hlow := HD2.out.flow _ (get_mem hg)
      have hlen := HD2.out.len _ (get_mem hg)
      dsimp only at hlen hlow
      have c0 := HD2.out.f0 hg
      have hsb := bs_size b
      have hsf := bs_size p.2.b
      have dw27 : IntKind.i64.wrap (65536 - (p.2.b.length : Int)) = 65536 - (p.2.b.length : Int) := IntWalk.i64_in _ ⟨by omega, by omega⟩
      rw [h1, h2]
      clear h1 h2 hok hg
      by_cases hbig : 65536 < p.2.b.length + b.length
      · have d28 : decide (65536 - (p.2.b.length : Int) < (b.length : Int)) = true := decide_eq_true (by omega)
        have hr := Lib.hid (hfull.out (Or.inl hbig))
        clear hbig hfull hfits
        go_wp2_with fail
        go_quiet (fail)
        go_wp2_with fail
        go_ret
        exact ⟨by rw [hr.out]; rfl, pw_below_drewN HB3.out nq, L, by rw [hr.out], HD2.out.drewN nq, .of_below (pw_below_drewN HB2.out nq) mb L⟩
      · have d28 : decide (65536 - (p.2.b.length : Int) < (b.length : Int)) = false := decide_eq_false (by omega)
        have hroom : used (fs L) ≤ q := HD2.out.ok.room
        have hquo := HD2.out.ok.quota
        have dw38 : IntKind.i64.wrap ((q : Int) - (used (fs L) : Int)) = (q : Int) - (used (fs L) : Int) := IntWalk.i64_in _ ⟨by omega, by omega⟩
        have HUs := Lib.hid (fun (W : World) (h : IsD W base d mb q L) => used_calls W h)
        by_cases hbig2 : q < used (fs L) + b.length
        · have d39 : decide ((q : Int) - (used (fs L) : Int) < (b.length : Int)) = true := decide_eq_true (by omega)
          have hr := Lib.hid (hfull.out (Or.inr hbig2))
          clear hbig hbig2 hfull hfits hroom hquo
          go_wp2_with fail
          refine start_ (n := 22) (S := (fun w' => IsD w' base d mb q L)) (ds := []) #[false, false, false, false, false, false, false, false, false, false, false, false, false, false, false, false, false, false, false, false, false, false] (by kernel_rfl) rfl rfl (HD2.out.below ((Below.refl _ w2).drew)) (fun hHeld => ?_)
          refine pure_ (i := 0) (N := some 20) (v := ?_) (a' := ?_) #[true, false, false, false, false, false, false, false, false, false, false, false, false, false, false, false, false, false, false, false, false, false] rfl rfl (by kernel_rfl) (fun _ _ _ h => h) (Or.inl ⟨by rfl, ?_⟩) ?_ ?_
          rotate_left
          · intro w'
            go_simp
            with_reducible rfl
          rotate_left
          · simp only [Act.put, List.setIfInBounds_toArray, List.set_cons_zero, List.set_cons_succ, i64_w, i32_w]
            rfl
          refine pure_ (i := 1) (N := some 21) (v := ?_) (a' := ?_) #[true, true, false, false, false, false, false, false, false, false, false, false, false, false, false, false, false, false, false, false, false, false] rfl rfl (by kernel_rfl) (fun _ _ _ h => h) (Or.inl ⟨by rfl, ?_⟩) ?_ ?_
          rotate_left
          · intro w'
            go_simp
            with_reducible rfl
          rotate_left
          · simp only [Act.put, List.setIfInBounds_toArray, List.set_cons_zero, List.set_cons_succ, i64_w, i32_w]
            rfl
          refine pure_ (i := 2) (N := some 22) (v := ?_) (a' := ?_) #[true, true, true, false, false, false, false, false, false, false, false, false, false, false, false, false, false, false, false, false, false, false] rfl rfl (by kernel_rfl) (fun _ _ _ h => h) (Or.inl ⟨by rfl, ?_⟩) ?_ ?_
          rotate_left
          · intro w'
            go_simp
            with_reducible rfl
          rotate_left
          · simp only [Act.put, List.setIfInBounds_toArray, List.set_cons_zero, List.set_cons_succ, i64_w, i32_w]
            rfl
          refine pure_ (i := 3) (N := some 23) (v := ?_) (a' := ?_) #[true, true, true, true, false, false, false, false, false, false, false, false, false, false, false, false, false, false, false, false, false, false] rfl rfl (by kernel_rfl) (fun _ _ _ h => h) (Or.inl ⟨by rfl, ?_⟩) ?_ ?_
          rotate_left
          · intro w'
            go_simp
            with_reducible rfl
          rotate_left
          · simp only [Act.put, List.setIfInBounds_toArray, List.set_cons_zero, List.set_cons_succ, i64_w, i32_w]
            rfl
          refine pure_ (i := 4) (N := some 24) (v := ?_) (a' := ?_) #[true, true, true, true, true, false, false, false, false, false, false, false, false, false, false, false, false, false, false, false, false, false] rfl rfl (by kernel_rfl) (fun _ _ _ h => h) (Or.inl ⟨by rfl, ?_⟩) ?_ ?_
          rotate_left
          · intro w'
            go_simp
            with_reducible rfl
          rotate_left
          · simp only [Act.put, List.setIfInBounds_toArray, List.set_cons_zero, List.set_cons_succ, i64_w, i32_w]
            rfl
          refine take_ (i := 5) (N := some 25) (v := ?_) (a' := ?_) #[true, true, true, true, true, true, false, false, false, false, false, false, false, false, false, false, false, false, false, false, false, false] rfl rfl (by kernel_rfl) (fun _ _ _ h => h) (Or.inl ⟨by rfl, ?_⟩) hHeld ?_ ?_
          rotate_left
          · rintro w' hS
            have c0' := hS.f0 HG.out
            go_simp
            with_reducible rfl
          rotate_left
          · simp only [Act.put, List.setIfInBounds_toArray, List.set_cons_zero, List.set_cons_succ, i64_w, i32_w]
            rfl
          refine pure_ (i := 6) (N := some 26) (v := ?_) (a' := ?_) #[true, true, true, true, true, true, true, false, false, false, false, false, false, false, false, false, false, false, false, false, false, false] rfl rfl (by kernel_rfl) (fun _ _ _ h => h) (Or.inl ⟨by rfl, ?_⟩) ?_ ?_
          rotate_left
          · intro w'
            go_simp
            with_reducible rfl
          rotate_left
          · simp only [Act.put, List.setIfInBounds_toArray, List.set_cons_zero, List.set_cons_succ, i64_w, i32_w]
            rfl
          refine pure_ (i := 7) (N := some 27) (v := ?_) (a' := ?_) #[true, true, true, true, true, true, true, true, false, false, false, false, false, false, false, false, false, false, false, false, false, false] rfl rfl (by kernel_rfl) (fun _ _ _ h => h) (Or.inl ⟨by rfl, ?_⟩) ?_ ?_
          rotate_left
          · intro w'
            go_simp
            with_reducible rfl
          rotate_left
          · simp only [Act.put, List.setIfInBounds_toArray, List.set_cons_zero, List.set_cons_succ, i64_w, i32_w]
            rfl
          refine pure_ (i := 8) (N := some 28) (v := ?_) (a' := ?_) #[true, true, true, true, true, true, true, true, true, false, false, false, false, false, false, false, false, false, false, false, false, false] rfl rfl (by kernel_rfl) (fun _ _ _ h => h) (Or.inl ⟨by rfl, ?_⟩) ?_ ?_
          rotate_left
          · intro w'
            go_simp
            with_reducible rfl
          rotate_left
          · simp only [Act.put, List.setIfInBounds_toArray, List.set_cons_zero, List.set_cons_succ, i64_w, i32_w]
            rfl
          refine pure_ (i := 9) (N := some 29) (v := ?_) (a' := ?_) #[true, true, true, true, true, true, true, true, true, true, false, false, false, false, false, false, false, false, false, false, false, false] rfl rfl (by kernel_rfl) (fun _ _ _ h => h) (Or.inl ⟨by rfl, ?_⟩) ?_ ?_
          rotate_left
          · intro w'
            go_simp
            with_reducible rfl
          rotate_left
          · simp only [Act.put, List.setIfInBounds_toArray, List.set_cons_zero, List.set_cons_succ, i64_w, i32_w]
            rfl
          refine pure_ (i := 10) (N := some 30) (v := ?_) (a' := ?_) #[true, true, true, true, true, true, true, true, true, true, true, false, false, false, false, false, false, false, false, false, false, false] rfl rfl (by kernel_rfl) (fun _ _ _ h => h) (Or.inl ⟨by rfl, ?_⟩) ?_ ?_
          rotate_left
          · intro w'
            go_simp
            with_reducible rfl
          rotate_left
          · simp only [Act.put, List.setIfInBounds_toArray, List.set_cons_zero, List.set_cons_succ, i64_w, i32_w]
            rfl
          refine pure_ (i := 11) (N := some 31) (v := ?_) (a' := ?_) #[true, true, true, true, true, true, true, true, true, true, true, true, false, false, false, false, false, false, false, false, false, false] rfl rfl (by kernel_rfl) (fun _ _ _ h => h) (Or.inl ⟨by rfl, ?_⟩) ?_ ?_
          rotate_left
          · intro w'
            go_simp
            with_reducible rfl
          rotate_left
          · simp only [Act.put, List.setIfInBounds_toArray, List.set_cons_zero, List.set_cons_succ, i64_w, i32_w]
            rfl
          refine pure_ (i := 12) (N := some 32) (v := ?_) (a' := ?_) #[true, true, true, true, true, true, true, true, true, true, true, true, true, false, false, false, false, false, false, false, false, false] rfl rfl (by kernel_rfl) (fun _ _ _ h => h) (Or.inl ⟨by rfl, ?_⟩) ?_ ?_
          rotate_left
          · intro w'
            go_simp
            with_reducible rfl
          rotate_left
          · simp only [Act.put, List.setIfInBounds_toArray, List.set_cons_zero, List.set_cons_succ, i64_w, i32_w]
            rfl
          refine pure_ (i := 13) (N := some 33) (v := ?_) (a' := ?_) #[true, true, true, true, true, true, true, true, true, true, true, true, true, true, false, false, false, false, false, false, false, false] rfl rfl (by kernel_rfl) (fun _ _ _ h => h) (Or.inl ⟨by rfl, ?_⟩) ?_ ?_
          rotate_left
          · intro w'
            go_simp
            with_reducible rfl
          rotate_left
          · simp only [Act.put, List.setIfInBounds_toArray, List.set_cons_zero, List.set_cons_succ, i64_w, i32_w]
            rfl
          refine pure_ (i := 14) (N := some 34) (v := ?_) (a' := ?_) #[true, true, true, true, true, true, true, true, true, true, true, true, true, true, true, false, false, false, false, false, false, false] rfl rfl (by kernel_rfl) (fun _ _ _ h => h) (Or.inl ⟨by rfl, ?_⟩) ?_ ?_
          rotate_left
          · intro w'
            go_simp
            with_reducible rfl
          rotate_left
          · simp only [Act.put, List.setIfInBounds_toArray, List.set_cons_zero, List.set_cons_succ, i64_w, i32_w]
            rfl
          refine take_ (i := 15) (N := some 35) (v := ?_) (a' := ?_) #[true, true, true, true, true, true, true, true, true, true, true, true, true, true, true, true, false, false, false, false, false, false] rfl rfl (by kernel_rfl) (fun _ _ _ h => h) (Or.inl ⟨by rfl, ?_⟩) hHeld ?_ ?_
          rotate_left
          · rintro w' hS
            have q0' := hS.q0
            go_simp
            with_reducible rfl
          rotate_left
          · simp only [Act.put, List.setIfInBounds_toArray, List.set_cons_zero, List.set_cons_succ, i64_w, i32_w]
            rfl
          refine pure_ (i := 16) (N := some 36) (v := ?_) (a' := ?_) #[true, true, true, true, true, true, true, true, true, true, true, true, true, true, true, true, true, false, false, false, false, false] rfl rfl (by kernel_rfl) (fun _ _ _ h => h) (Or.inl ⟨by rfl, ?_⟩) ?_ ?_
          rotate_left
          · intro w'
            go_simp
            with_reducible rfl
          rotate_left
          · simp only [Act.put, List.setIfInBounds_toArray, List.set_cons_zero, List.set_cons_succ, i64_w, i32_w]
            rfl
          refine one_ (i := 17) (N := some 37) #[true, true, true, true, true, true, true, true, true, true, true, true, true, true, true, true, true, true, false, false, false, false] rfl rfl (by kernel_rfl) (by decide) (fun K hK => ?_)
          refine goes_ Tryz.func50 (by kernel_rfl) rfl #[.pointer (some ⟨d, 0, none⟩)] (by rfl) rfl rfl (by simp only [List.map_toArray, List.map_cons, List.map_nil]; rfl) ?_
          refine (HUs.out _ hHeld).mono ?_
          rintro e w5 ⟨rfl, hB5⟩
          have HB5 := Lib.hid ((HB3.out.drew).trans (hB5.mono (show base ≤ w2.drew.heap.size from HD2.out.size)))
          have HD5 := Lib.hid (hHeld.below hB5)
          have HT5 := Lib.hid ((Turn.of_below (HB2.out.drew) mb L).then_below hB5)
          clear hB5
          refine ⟨_, rfl, ?_⟩
          refine hK.out _ _ HD5.out (fun hHeld => ?_)
          clear hK K
          refine norm_ (a' := ?_) ?_ ?_
          rotate_left
          · show Act.put _ (some 37) _ = _
            simp only [Act.put, List.setIfInBounds_toArray, List.set_cons_zero, List.set_cons_succ, i64_w, i32_w]
            rfl
          refine pure_ (i := 18) (N := some 38) (v := ?_) (a' := ?_) #[true, true, true, true, true, true, true, true, true, true, true, true, true, true, true, true, true, true, true, false, false, false] rfl rfl (by kernel_rfl) (fun _ _ _ h => h) (Or.inl ⟨by rfl, ?_⟩) ?_ ?_
          rotate_left
          · intro w'
            go_simp
            with_reducible rfl
          rotate_left
          · simp only [Act.put, List.setIfInBounds_toArray, List.set_cons_zero, List.set_cons_succ, i64_w, i32_w]
            rfl
          refine pure_ (i := 19) (N := some 39) (v := ?_) (a' := ?_) #[true, true, true, true, true, true, true, true, true, true, true, true, true, true, true, true, true, true, true, true, false, false] rfl rfl (by kernel_rfl) (fun _ _ _ h => h) (Or.inl ⟨by rfl, ?_⟩) ?_ ?_
          rotate_left
          · intro w'
            go_simp
            with_reducible rfl
          rotate_left
          · simp only [Act.put, List.setIfInBounds_toArray, List.set_cons_zero, List.set_cons_succ, i64_w, i32_w]
            rfl
          refine pure_ (i := 20) (N := some 40) (v := ?_) (a' := ?_) #[true, true, true, true, true, true, true, true, true, true, true, true, true, true, true, true, true, true, true, true, true, false] rfl rfl (by kernel_rfl) (fun _ _ _ h => h) (Or.inl ⟨by rfl, ?_⟩) ?_ ?_
          rotate_left
          · intro w'
            go_simp
            with_reducible rfl
          rotate_left
          · simp only [Act.put, List.setIfInBounds_toArray, List.set_cons_zero, List.set_cons_succ, i64_w, i32_w]
            rfl
          refine pure_ (i := 21) (N := some 19) (v := ?_) (a' := ?_) #[true, true, true, true, true, true, true, true, true, true, true, true, true, true, true, true, true, true, true, true, true, true] rfl rfl (by kernel_rfl) (fun _ _ _ h => h) (Or.inl ⟨by rfl, ?_⟩) ?_ ?_
          rotate_left
          · intro w'
            go_simp
            with_reducible rfl
          rotate_left
          · simp only [Act.put, List.setIfInBounds_toArray, List.set_cons_zero, List.set_cons_succ, i64_w, i32_w]
            rfl
          refine done_ (by kernel_rfl) ?_
          go_wp2_with fail
          go_ret
          exact ⟨by rw [hr.out]; rfl, HB5.out, L, by rw [hr.out], HD5.out, HT5.out⟩
        · have d39 : decide ((q : Int) - (used (fs L) : Int) < (b.length : Int)) = false := decide_eq_false (by omega)
          have hr := Lib.hid (hfits.out (by omega))
          have hcat : ¬ 9223372036854775807 < (bs p.2.b).size + (bs b).size := by omega
          have hjoin : bs p.2.b ++ bs b = bs (p.2.b ++ b) := bs_append _ _
          clear hbig hbig2 hfull hfits hroom hquo
          go_wp2_with fail
          refine start_ (n := 22) (S := (fun w' => IsD w' base d mb q L)) (ds := []) #[false, false, false, false, false, false, false, false, false, false, false, false, false, false, false, false, false, false, false, false, false, false] (by kernel_rfl) rfl rfl (HD2.out.below ((Below.refl _ w2).drew)) (fun hHeld => ?_)
          refine pure_ (i := 0) (N := some 20) (v := ?_) (a' := ?_) #[true, false, false, false, false, false, false, false, false, false, false, false, false, false, false, false, false, false, false, false, false, false] rfl rfl (by kernel_rfl) (fun _ _ _ h => h) (Or.inl ⟨by rfl, ?_⟩) ?_ ?_
          rotate_left
          · intro w'
            go_simp
            with_reducible rfl
          rotate_left
          · simp only [Act.put, List.setIfInBounds_toArray, List.set_cons_zero, List.set_cons_succ, i64_w, i32_w]
            rfl
          refine pure_ (i := 1) (N := some 21) (v := ?_) (a' := ?_) #[true, true, false, false, false, false, false, false, false, false, false, false, false, false, false, false, false, false, false, false, false, false] rfl rfl (by kernel_rfl) (fun _ _ _ h => h) (Or.inl ⟨by rfl, ?_⟩) ?_ ?_
          rotate_left
          · intro w'
            go_simp
            with_reducible rfl
          rotate_left
          · simp only [Act.put, List.setIfInBounds_toArray, List.set_cons_zero, List.set_cons_succ, i64_w, i32_w]
            rfl
          refine pure_ (i := 2) (N := some 22) (v := ?_) (a' := ?_) #[true, true, true, false, false, false, false, false, false, false, false, false, false, false, false, false, false, false, false, false, false, false] rfl rfl (by kernel_rfl) (fun _ _ _ h => h) (Or.inl ⟨by rfl, ?_⟩) ?_ ?_
          rotate_left
          · intro w'
            go_simp
            with_reducible rfl
          rotate_left
          · simp only [Act.put, List.setIfInBounds_toArray, List.set_cons_zero, List.set_cons_succ, i64_w, i32_w]
            rfl
          refine pure_ (i := 3) (N := some 23) (v := ?_) (a' := ?_) #[true, true, true, true, false, false, false, false, false, false, false, false, false, false, false, false, false, false, false, false, false, false] rfl rfl (by kernel_rfl) (fun _ _ _ h => h) (Or.inl ⟨by rfl, ?_⟩) ?_ ?_
          rotate_left
          · intro w'
            go_simp
            with_reducible rfl
          rotate_left
          · simp only [Act.put, List.setIfInBounds_toArray, List.set_cons_zero, List.set_cons_succ, i64_w, i32_w]
            rfl
          refine pure_ (i := 4) (N := some 24) (v := ?_) (a' := ?_) #[true, true, true, true, true, false, false, false, false, false, false, false, false, false, false, false, false, false, false, false, false, false] rfl rfl (by kernel_rfl) (fun _ _ _ h => h) (Or.inl ⟨by rfl, ?_⟩) ?_ ?_
          rotate_left
          · intro w'
            go_simp
            with_reducible rfl
          rotate_left
          · simp only [Act.put, List.setIfInBounds_toArray, List.set_cons_zero, List.set_cons_succ, i64_w, i32_w]
            rfl
          refine take_ (i := 5) (N := some 25) (v := ?_) (a' := ?_) #[true, true, true, true, true, true, false, false, false, false, false, false, false, false, false, false, false, false, false, false, false, false] rfl rfl (by kernel_rfl) (fun _ _ _ h => h) (Or.inl ⟨by rfl, ?_⟩) hHeld ?_ ?_
          rotate_left
          · rintro w' hS
            have c0' := hS.f0 HG.out
            go_simp
            with_reducible rfl
          rotate_left
          · simp only [Act.put, List.setIfInBounds_toArray, List.set_cons_zero, List.set_cons_succ, i64_w, i32_w]
            rfl
          refine pure_ (i := 6) (N := some 26) (v := ?_) (a' := ?_) #[true, true, true, true, true, true, true, false, false, false, false, false, false, false, false, false, false, false, false, false, false, false] rfl rfl (by kernel_rfl) (fun _ _ _ h => h) (Or.inl ⟨by rfl, ?_⟩) ?_ ?_
          rotate_left
          · intro w'
            go_simp
            with_reducible rfl
          rotate_left
          · simp only [Act.put, List.setIfInBounds_toArray, List.set_cons_zero, List.set_cons_succ, i64_w, i32_w]
            rfl
          refine pure_ (i := 7) (N := some 27) (v := ?_) (a' := ?_) #[true, true, true, true, true, true, true, true, false, false, false, false, false, false, false, false, false, false, false, false, false, false] rfl rfl (by kernel_rfl) (fun _ _ _ h => h) (Or.inl ⟨by rfl, ?_⟩) ?_ ?_
          rotate_left
          · intro w'
            go_simp
            with_reducible rfl
          rotate_left
          · simp only [Act.put, List.setIfInBounds_toArray, List.set_cons_zero, List.set_cons_succ, i64_w, i32_w]
            rfl
          refine pure_ (i := 8) (N := some 28) (v := ?_) (a' := ?_) #[true, true, true, true, true, true, true, true, true, false, false, false, false, false, false, false, false, false, false, false, false, false] rfl rfl (by kernel_rfl) (fun _ _ _ h => h) (Or.inl ⟨by rfl, ?_⟩) ?_ ?_
          rotate_left
          · intro w'
            go_simp
            with_reducible rfl
          rotate_left
          · simp only [Act.put, List.setIfInBounds_toArray, List.set_cons_zero, List.set_cons_succ, i64_w, i32_w]
            rfl
          refine pure_ (i := 9) (N := some 29) (v := ?_) (a' := ?_) #[true, true, true, true, true, true, true, true, true, true, false, false, false, false, false, false, false, false, false, false, false, false] rfl rfl (by kernel_rfl) (fun _ _ _ h => h) (Or.inl ⟨by rfl, ?_⟩) ?_ ?_
          rotate_left
          · intro w'
            go_simp
            with_reducible rfl
          rotate_left
          · simp only [Act.put, List.setIfInBounds_toArray, List.set_cons_zero, List.set_cons_succ, i64_w, i32_w]
            rfl
          refine pure_ (i := 10) (N := some 30) (v := ?_) (a' := ?_) #[true, true, true, true, true, true, true, true, true, true, true, false, false, false, false, false, false, false, false, false, false, false] rfl rfl (by kernel_rfl) (fun _ _ _ h => h) (Or.inl ⟨by rfl, ?_⟩) ?_ ?_
          rotate_left
          · intro w'
            go_simp
            with_reducible rfl
          rotate_left
          · simp only [Act.put, List.setIfInBounds_toArray, List.set_cons_zero, List.set_cons_succ, i64_w, i32_w]
            rfl
          refine pure_ (i := 11) (N := some 31) (v := ?_) (a' := ?_) #[true, true, true, true, true, true, true, true, true, true, true, true, false, false, false, false, false, false, false, false, false, false] rfl rfl (by kernel_rfl) (fun _ _ _ h => h) (Or.inl ⟨by rfl, ?_⟩) ?_ ?_
          rotate_left
          · intro w'
            go_simp
            with_reducible rfl
          rotate_left
          · simp only [Act.put, List.setIfInBounds_toArray, List.set_cons_zero, List.set_cons_succ, i64_w, i32_w]
            rfl
          refine pure_ (i := 12) (N := some 32) (v := ?_) (a' := ?_) #[true, true, true, true, true, true, true, true, true, true, true, true, true, false, false, false, false, false, false, false, false, false] rfl rfl (by kernel_rfl) (fun _ _ _ h => h) (Or.inl ⟨by rfl, ?_⟩) ?_ ?_
          rotate_left
          · intro w'
            go_simp
            with_reducible rfl
          rotate_left
          · simp only [Act.put, List.setIfInBounds_toArray, List.set_cons_zero, List.set_cons_succ, i64_w, i32_w]
            rfl
          refine pure_ (i := 13) (N := some 33) (v := ?_) (a' := ?_) #[true, true, true, true, true, true, true, true, true, true, true, true, true, true, false, false, false, false, false, false, false, false] rfl rfl (by kernel_rfl) (fun _ _ _ h => h) (Or.inl ⟨by rfl, ?_⟩) ?_ ?_
          rotate_left
          · intro w'
            go_simp
            with_reducible rfl
          rotate_left
          · simp only [Act.put, List.setIfInBounds_toArray, List.set_cons_zero, List.set_cons_succ, i64_w, i32_w]
            rfl
          refine pure_ (i := 14) (N := some 34) (v := ?_) (a' := ?_) #[true, true, true, true, true, true, true, true, true, true, true, true, true, true, true, false, false, false, false, false, false, false] rfl rfl (by kernel_rfl) (fun _ _ _ h => h) (Or.inl ⟨by rfl, ?_⟩) ?_ ?_
          rotate_left
          · intro w'
            go_simp
            with_reducible rfl
          rotate_left
          · simp only [Act.put, List.setIfInBounds_toArray, List.set_cons_zero, List.set_cons_succ, i64_w, i32_w]
            rfl
          refine take_ (i := 15) (N := some 35) (v := ?_) (a' := ?_) #[true, true, true, true, true, true, true, true, true, true, true, true, true, true, true, true, false, false, false, false, false, false] rfl rfl (by kernel_rfl) (fun _ _ _ h => h) (Or.inl ⟨by rfl, ?_⟩) hHeld ?_ ?_
          rotate_left
          · rintro w' hS
            have q0' := hS.q0
            go_simp
            with_reducible rfl
          rotate_left
          · simp only [Act.put, List.setIfInBounds_toArray, List.set_cons_zero, List.set_cons_succ, i64_w, i32_w]
            rfl
          refine pure_ (i := 16) (N := some 36) (v := ?_) (a' := ?_) #[true, true, true, true, true, true, true, true, true, true, true, true, true, true, true, true, true, false, false, false, false, false] rfl rfl (by kernel_rfl) (fun _ _ _ h => h) (Or.inl ⟨by rfl, ?_⟩) ?_ ?_
          rotate_left
          · intro w'
            go_simp
            with_reducible rfl
          rotate_left
          · simp only [Act.put, List.setIfInBounds_toArray, List.set_cons_zero, List.set_cons_succ, i64_w, i32_w]
            rfl
          refine one_ (i := 17) (N := some 37) #[true, true, true, true, true, true, true, true, true, true, true, true, true, true, true, true, true, true, false, false, false, false] rfl rfl (by kernel_rfl) (by decide) (fun K hK => ?_)
          refine goes_ Tryz.func50 (by kernel_rfl) rfl #[.pointer (some ⟨d, 0, none⟩)] (by rfl) rfl rfl (by simp only [List.map_toArray, List.map_cons, List.map_nil]; rfl) ?_
          refine (HUs.out _ hHeld).mono ?_
          rintro e w5 ⟨rfl, hB5⟩
          have HB5 := Lib.hid ((HB3.out.drew).trans (hB5.mono (show base ≤ w2.drew.heap.size from HD2.out.size)))
          have HD5 := Lib.hid (hHeld.below hB5)
          have HT5 := Lib.hid ((Turn.of_below (HB2.out.drew) mb L).then_below hB5)
          clear hB5
          refine ⟨_, rfl, ?_⟩
          refine hK.out _ _ HD5.out (fun hHeld => ?_)
          clear hK K
          refine norm_ (a' := ?_) ?_ ?_
          rotate_left
          · show Act.put _ (some 37) _ = _
            simp only [Act.put, List.setIfInBounds_toArray, List.set_cons_zero, List.set_cons_succ, i64_w, i32_w]
            rfl
          refine pure_ (i := 18) (N := some 38) (v := ?_) (a' := ?_) #[true, true, true, true, true, true, true, true, true, true, true, true, true, true, true, true, true, true, true, false, false, false] rfl rfl (by kernel_rfl) (fun _ _ _ h => h) (Or.inl ⟨by rfl, ?_⟩) ?_ ?_
          rotate_left
          · intro w'
            go_simp
            with_reducible rfl
          rotate_left
          · simp only [Act.put, List.setIfInBounds_toArray, List.set_cons_zero, List.set_cons_succ, i64_w, i32_w]
            rfl
          refine pure_ (i := 19) (N := some 39) (v := ?_) (a' := ?_) #[true, true, true, true, true, true, true, true, true, true, true, true, true, true, true, true, true, true, true, true, false, false] rfl rfl (by kernel_rfl) (fun _ _ _ h => h) (Or.inl ⟨by rfl, ?_⟩) ?_ ?_
          rotate_left
          · intro w'
            go_simp
            with_reducible rfl
          rotate_left
          · simp only [Act.put, List.setIfInBounds_toArray, List.set_cons_zero, List.set_cons_succ, i64_w, i32_w]
            rfl
          refine pure_ (i := 20) (N := some 40) (v := ?_) (a' := ?_) #[true, true, true, true, true, true, true, true, true, true, true, true, true, true, true, true, true, true, true, true, true, false] rfl rfl (by kernel_rfl) (fun _ _ _ h => h) (Or.inl ⟨by rfl, ?_⟩) ?_ ?_
          rotate_left
          · intro w'
            go_simp
            with_reducible rfl
          rotate_left
          · simp only [Act.put, List.setIfInBounds_toArray, List.set_cons_zero, List.set_cons_succ, i64_w, i32_w]
            rfl
          refine pure_ (i := 21) (N := some 19) (v := ?_) (a' := ?_) #[true, true, true, true, true, true, true, true, true, true, true, true, true, true, true, true, true, true, true, true, true, true] rfl rfl (by kernel_rfl) (fun _ _ _ h => h) (Or.inl ⟨by rfl, ?_⟩) ?_ ?_
          rotate_left
          · intro w'
            go_simp
            with_reducible rfl
          rotate_left
          · simp only [Act.put, List.setIfInBounds_toArray, List.set_cons_zero, List.set_cons_succ, i64_w, i32_w]
            rfl
          refine done_ (by kernel_rfl) ?_
          have c5 := HD5.out.f0 HG.out
          have hfr := blk_frozen (HD5.out.file _ (get_mem HG.out)) 0
          go_wp2_with fail
          go_ret
          refine ⟨by rw [hr.out]; rfl, HB5.out.setCell hlow _, upd L n (fun x => (x.1, ⟨x.2.b ++ b, x.2.s⟩)), ?_, ?_⟩
          · rw [hr.out]; exact fs_upd L n (fun f => ⟨f.b ++ b, f.s⟩)
          · have hk := HD5.out.ok.append n b
            have hsy : append q (fs L) n b = (upd (fs L) n (fun f => ⟨f.b ++ b, f.s⟩), 0) := hr.out
            rw [hsy] at hk
            refine ⟨HD5.out.turn HG.out (fun f => ⟨f.b ++ b, f.s⟩) (set_file0 (HD5.out.file _ (get_mem HG.out)) _) (fun k hk => Below.heap_setCell _ _ _ _ hk) hk, ?_⟩
            exact (HT5.out.upd n (fun f => ⟨f.b ++ b, f.s⟩)).set ⟨_, turned_mem HG.out (fun f => ⟨f.b ++ b, f.s⟩), rfl⟩ _ _
end Go.Proofs.YtbffgpfkgmhmhaaGreat.Dw
/- The chapter's disk: some, torn, works (functions 27, 28, 8). -/
set_option linter.unusedVariables false
set_option linter.unusedSimpArgs false
namespace Go.Proofs.YtbffgpfkgmhmhaaGreat.Dw
open Go.RowKit Go.Maps Go.Proofs.YtbffgpfkgmhmhaaGreatW.PrintWords Go.Proofs.YtbffgpfkgmhmhaaGreatW.PrintLast Go.Proofs.YtbffgpfkgmhmhaaGreatW.PrintMore Go.Proofs.Dk
set_option maxRecDepth 100000
/-- A row of numbers that came in. -/
def Nums (w : World) (A : Option Addr) (l : List Int) : Prop := ∀ (j : Nat) (h : j < l.length), ∃ ad, A = some ad ∧ w.cell? (ad.add j) = some (.int .i64 l[j])
theorem cell_lt {w : World} {a : Addr} {v : Value} (h : w.cell? a = some v) : a.block < w.heap.size := by
  rcases Nat.lt_or_ge a.block w.heap.size with h1 | h1
  · exact h1
  · exfalso
    unfold World.cell? at h
    rw [Array.getElem?_eq_none h1] at h
    simp at h
theorem add_block (a : Addr) (j : Nat) : (a.add j).block = a.block := by unfold Addr.add; split <;> rfl
end Go.Proofs.YtbffgpfkgmhmhaaGreat.Dw
/- sync/atomic, sync.Mutex, sync.Once at this program (functions 42, 49, 61, 62, 80, 78, 79, 63, 47). -/
set_option linter.unusedVariables false
set_option linter.unusedSimpArgs false
namespace Go.Proofs.YtbffgpfkgmhmhaaGreat.Dw
open Go.RowKit Go.Maps Go.Proofs.YtbffgpfkgmhmhaaGreatW.PrintWords Go.Proofs.YtbffgpfkgmhmhaaGreatW.PrintLast Go.Proofs.YtbffgpfkgmhmhaaGreatW.PrintMore Go.Proofs.Dk
set_option maxRecDepth 100000
theorem aload_calls (w : World) (a : Addr) (v : Int) (hc : w.cell? a = some (.int .i64 v)) : Calls Tryz.prog 22 #[.pointer (some a)] w fun e w' => e = .returned (.int .i64 v) ∧ w' = w := by
  have hl := run_call_load (P := Tryz.prog) Tryz.func43 (by kernel_rfl) (by kernel_rfl) (by kernel_rfl) .i64 (by kernel_rfl) hc
  go_enter Tryz.func22, Tryz.ntmps22
  go_wp2
  go_ret
  exact ⟨rfl, rfl⟩
theorem astore_calls (w : World) (a : Addr) (v : Int) {x : Value} (hc : w.cell? a = some x) (hz : w.frozen? a = false) : Calls Tryz.prog 30 #[.pointer (some a), .int .i64 v] w fun e w' => e = .returned (.tuple #[]) ∧ w' = w.setCell a (.int .i64 v) := by
  have hst := run_call_store (P := Tryz.prog) Tryz.func48 (by kernel_rfl) (by kernel_rfl) (by kernel_rfl) (by kernel_rfl) (k := .i64) (y := v) hc hz
  go_enter Tryz.func30, Tryz.ntmps30
  go_wp2
  go_end0
  exact ⟨rfl, rfl⟩
theorem aadd_calls (w : World) (a : Addr) (v s : Int) (hc : w.cell? a = some (.int .i64 v)) (hz : w.frozen? a = false) (hs : IntKind.i64.wrap (v + 1) = s) : Calls Tryz.prog 49 #[.pointer (some a), .int .i64 1] w fun e w' => e = .returned (.int .i64 s) ∧ w' = w.setCell a (.int .i64 s) := by
  have hadd := run_call_add (P := Tryz.prog) Tryz.func60 (by kernel_rfl) (by kernel_rfl) (by kernel_rfl) .i64 (by kernel_rfl) (y := 1) (s := s) hc hz (by simp [go_sem]; rw [← hs])
  go_enter Tryz.func49, Tryz.ntmps49
  go_wp2
  go_ret
  exact ⟨rfl, rfl⟩
theorem disable (w : World) : (callFunc 76 #[]).run Tryz.prog w = .ok (.value (.tuple #[])) w := run_call_mark0 Tryz.func76 (by kernel_rfl) (by kernel_rfl) (by kernel_rfl) .disable (by kernel_rfl) w
theorem enable (w : World) : (callFunc 78 #[]).run Tryz.prog w = .ok (.value (.tuple #[])) w := run_call_mark0 Tryz.func78 (by kernel_rfl) (by kernel_rfl) (by kernel_rfl) .enable (by kernel_rfl) w
theorem acquire (a : Addr) (w : World) : (callFunc 79 #[.pointer (some a)]).run Tryz.prog w = .ok (.value (.tuple #[])) w := run_call_marked Tryz.func79 (by kernel_rfl) (by kernel_rfl) (by kernel_rfl) .acquire (by kernel_rfl) a w
theorem releaseMerge (a : Addr) (w : World) : (callFunc 81 #[.pointer (some a)]).run Tryz.prog w = .ok (.value (.tuple #[])) w := run_call_marked Tryz.func81 (by kernel_rfl) (by kernel_rfl) (by kernel_rfl) .releaseMerge (by kernel_rfl) a w
/-- '(*sync/atomic.Bool).Store(true)', entered as a deferred call: the cell holds 1. -/
theorem store_deferred (a : Addr) (x : Value) (u : FrameMode) (w : World) (hc : w.cell? a = some x) (hz : w.frozen? a = false) :
    CallsD Tryz.prog 59 #[.pointer (some a), .bool true] u w fun e u' w' => u' = u ∧ (e = .returned (.tuple #[]) ∧ w' = w.drew.setCell a (.int .u32 1)) := by
  have hc' : w.drew.cell? a = some x := by go_simp
  have hz' : w.drew.frozen? a = false := by go_simp
  have hst := run_call_store (P := Tryz.prog) Tryz.func69 (by kernel_rfl) (by kernel_rfl) (by kernel_rfl) (by kernel_rfl) (k := .u32) (y := 1) hc' hz'
  go_enter_d Tryz.func59, Tryz.ntmps59
  go_wp2
  go_region_calls
  all_goals (go_end0; exact ⟨rfl, rfl⟩)
/-- '(*sync.Mutex).Unlock', entered as a deferred call, the lock held and nobody waiting (state 1): state 0. -/
theorem unlock_deferred (a : Addr) (u : FrameMode) (w : World) (hc : w.cell? a = some (.int .i32 1)) (hz : w.frozen? a = false) :
    CallsD Tryz.prog 58 #[.pointer (some a)] u w fun e u' w' => u' = u ∧ (e = .returned (.tuple #[]) ∧ w' = w.setCell a (.int .i32 0)) := by
  have hd := disable
  have he := enable
  have hr := releaseMerge
  have hadd := run_call_add (P := Tryz.prog) Tryz.func82 (by kernel_rfl) (by kernel_rfl) (by kernel_rfl) .i32 (by kernel_rfl) (y := -1) (s := 0) hc hz (by simp [go_sem]; rfl)
  have hcv := run_convert_to_unsafe (P := Tryz.prog) (src := 113) (dst := 117) Tryz.underlying113 Tryz.underlying117 (by kernel_rfl) hc
  go_enter_d Tryz.func58, Tryz.ntmps58
  go_wp2
  go_end0
  go_wp2
  go_end0
  exact ⟨rfl, rfl⟩
/-- '(*sync.Mutex).Lock', the lock free (state 0): state 1. -/
theorem lock_free (a : Addr) (w : World) (hc : w.cell? a = some (.int .i32 0)) (hz : w.frozen? a = false) :
    Calls Tryz.prog 57 #[.pointer (some a)] w fun e w' => e = .returned (.tuple #[]) ∧ w' = w.setCell a (.int .i32 1) := by
  have hd := disable
  have he := enable
  have ha := acquire
  have hcas := run_call_cas_hit (P := Tryz.prog) Tryz.func77 (by kernel_rfl) (by kernel_rfl) (by kernel_rfl) .i32 (by kernel_rfl) (y := 1) hc hz
  have hc' : (w.setCell a (.int .i32 1)).cell? a = some (.int .i32 1) := World.cell?_setCell_same w a _ hc
  have hcv := run_convert_to_unsafe (P := Tryz.prog) (src := 113) (dst := 117) Tryz.underlying113 Tryz.underlying117 (by kernel_rfl) hc'
  go_enter Tryz.func57, Tryz.ntmps57
  go_wp2
  first | go_end0 | (simp only [Exit.inBlock, Exit.then]; refine bodyPost_ret (results_none rfl _ _ _) rfl ?_) | refine bodyPost_ret (results_none rfl _ _ _) rfl ?_
  go_wp2
  go_end0
  exact ⟨rfl, rfl⟩
end Go.Proofs.YtbffgpfkgmhmhaaGreat.Dw
/- sync.Once at this program: doSlow, Do (functions 63, 47), the function that it is given told by its contract. -/
set_option linter.unusedVariables false
set_option linter.unusedSimpArgs false
namespace Go.Proofs.YtbffgpfkgmhmhaaGreat.Dw
open Go.RowKit Go.Maps Go.Proofs.YtbffgpfkgmhmhaaGreatW.PrintWords Go.Proofs.YtbffgpfkgmhmhaaGreatW.PrintLast Go.Proofs.YtbffgpfkgmhmhaaGreatW.PrintMore Go.Proofs.Dk
set_option maxRecDepth 100000
theorem bload_calls (w : World) (a : Addr) (v : Int) (b : Bool) (hv : decide (v = 0) = !b) (hc : w.cell? a = some (.int .u32 v)) : Calls Tryz.prog 46 #[.pointer (some a)] w fun e w' => e = .returned (.bool b) ∧ w' = w := by
  have hl := run_call_load (P := Tryz.prog) Tryz.func56 (by kernel_rfl) (by kernel_rfl) (by kernel_rfl) .u32 (by kernel_rfl) hc
  have hb : (v != 0) = b := by cases b <;> simp_all
  go_enter Tryz.func46, Tryz.ntmps46
  go_wp2
  go_ret
  exact ⟨rfl, rfl⟩
set_option maxHeartbeats 1600000 in
theorem slow_calls (b o : Nat) (x0 : Addr) (w : World) (R : World → Prop) (h0 : w.cell? ⟨b, o, none⟩ = some (.int .u32 0)) (h1 : w.cell? ⟨b, o + 1, none⟩ = some (.int .i32 0)) (f1 : w.frozen? ⟨b, o + 1, none⟩ = false)
    (hF : Calls Tryz.prog 28 #[.pointer (some x0)] (w.setCell ⟨b, o + 1, none⟩ (.int .i32 1)) fun e w1 => (∃ v, e = .returned v) ∧ R w1)
    (hR : ∀ w1, R w1 → w1.cell? ⟨b, o, none⟩ = some (.int .u32 0) ∧ w1.cell? ⟨b, o + 1, none⟩ = some (.int .i32 1) ∧ w1.frozen? ⟨b, o, none⟩ = false ∧ w1.frozen? ⟨b, o + 1, none⟩ = false) :
    Calls Tryz.prog 47 #[.pointer (some ⟨b, o, none⟩), .func (.func 28) #[] #[.pointer (some x0)]] w fun e w' => e = .returned (.tuple #[]) ∧
      ∃ w1, R w1 ∧ w' = (w1.drew.setCell ⟨b, o, none⟩ (.int .u32 1)).setCell ⟨b, o + 1, none⟩ (.int .i32 0) := by
  have h0' : (w.setCell ⟨b, o + 1, none⟩ (.int .i32 1)).cell? ⟨b, o, none⟩ = some (.int .u32 0) := (World.cell?_setCell_other _ ⟨b, o + 1, none⟩ ⟨b, o, none⟩ _ (by simp)).trans h0
  go_enter_defers Tryz.func47, Tryz.ntmps47
  go_wp2_with (first | (go_at_call 57; refine (lock_free ⟨b, o + 1, none⟩ _ (by go_simp) (by go_simp)).mono ?_; rintro e w' ⟨rfl, rfl⟩) | (go_at_call 46; refine (bload_calls _ ⟨b, o, none⟩ 0 false rfl h0').mono ?_; rintro e w' ⟨rfl, hw'⟩; obtain rfl := hw'.symm) | (go_at_call 28; refine hF.mono ?_; rintro e w1 ⟨⟨v, rfl⟩, hw1⟩; obtain ⟨q0, q1, g0, g1⟩ := hR _ hw1))
  refine leaves_cons (f := 59) (args := #[.pointer (some ⟨b, o, none⟩), .bool true]) (by simp) (by simp [go_sem]) ?_
  refine (store_deferred ⟨b, o, none⟩ (.int .u32 0) .returning _ q0 g0).mono ?_
  rintro e u' w'' ⟨rfl, rfl, rfl⟩
  refine leaves_cons (f := 58) (args := #[.pointer (some ⟨b, o + 1, none⟩)]) (by simp [settle]) (by simp [go_sem]) ?_
  refine (unlock_deferred ⟨b, o + 1, none⟩ _ _ ?_ (by rw [World.frozen?_setCell]; exact g1)).mono ?_
  · refine (World.cell?_setCell_other _ ⟨b, o, none⟩ ⟨b, o + 1, none⟩ _ (by simp)).trans ?_
    rw [World.cell?_drew]
    exact q1
  rintro e u' w'' ⟨rfl, rfl, rfl⟩
  simp [Leaves, settle, results, Tryz.results63]
  exact ⟨_, hw1, rfl⟩
theorem do_first (b o : Nat) (x0 : Addr) (w : World) (R : World → Prop) (h0 : w.cell? ⟨b, o, none⟩ = some (.int .u32 0)) (h1 : w.cell? ⟨b, o + 1, none⟩ = some (.int .i32 0)) (f1 : w.frozen? ⟨b, o + 1, none⟩ = false)
    (hF : Calls Tryz.prog 28 #[.pointer (some x0)] (w.setCell ⟨b, o + 1, none⟩ (.int .i32 1)) fun e w1 => (∃ v, e = .returned v) ∧ R w1)
    (hR : ∀ w1, R w1 → w1.cell? ⟨b, o, none⟩ = some (.int .u32 0) ∧ w1.cell? ⟨b, o + 1, none⟩ = some (.int .i32 1) ∧ w1.frozen? ⟨b, o, none⟩ = false ∧ w1.frozen? ⟨b, o + 1, none⟩ = false) :
    Calls Tryz.prog 27 #[.pointer (some ⟨b, o, none⟩), .func (.func 28) #[] #[.pointer (some x0)]] w fun e w' => e = .returned (.tuple #[]) ∧
      ∃ w1, R w1 ∧ w' = (w1.drew.setCell ⟨b, o, none⟩ (.int .u32 1)).setCell ⟨b, o + 1, none⟩ (.int .i32 0) := by
  have HS := Lib.hid (slow_calls b o x0 w R h0 h1 f1 hF hR)
  clear hF hR h1 f1
  go_enter Tryz.func27, Tryz.ntmps27
  go_wp2_with (first | (go_at_call 46; refine (bload_calls _ ⟨b, o, none⟩ 0 false rfl h0).mono ?_; rintro e w' ⟨rfl, hw'⟩; obtain rfl := hw'.symm) | (go_at_call 47; refine HS.out.mono ?_; rintro e w' ⟨rfl, w1, hR1, rfl⟩))
  go_end0
  exact ⟨rfl, w1, hR1, rfl⟩
end Go.Proofs.YtbffgpfkgmhmhaaGreat.Dw
/- A power in a world; slices.Clone, New, is, Down, Disk, Writes (functions 40, 15, 41, 16, 17, 23). -/
set_option linter.unusedVariables false
set_option linter.unusedSimpArgs false
namespace Go.Proofs.YtbffgpfkgmhmhaaGreat.Dw
open Go.RowKit Go.Maps Go.Proofs.YtbffgpfkgmhmhaaGreatW.PrintWords Go.Proofs.YtbffgpfkgmhmhaaGreatW.PrintLast Go.Proofs.YtbffgpfkgmhmhaaGreatW.PrintMore Go.Proofs.Dk
set_option maxRecDepth 100000
/-- Where a power lies, and what it is made of. -/
structure PW where
  base : Nat
  d : Nat
  mb : Nat
  q : Nat
  pb : Nat
  fuse : Int
  A : Option Addr
  cap : Nat
  keep : List Int
/-- What turns in a power: its writes, whether it is off, the once's two words. -/
structure PC where
  wr : Int
  off : Int
  done : Int
  mu : Int
def pcells (k : PW) (c : PC) : Array Value := #[.pointer (some ⟨k.d, 0, none⟩), .int .i64 k.fuse, .slice k.A k.keep.length k.cap, .int .i64 c.wr, .int .i64 c.off, .int .u32 c.done, .int .i32 c.mu, .int .u32 0]
structure IsP (w : World) (k : PW) (L : Lf) (c : PC) : Prop where
  disk : IsD w k.base k.d k.mb k.q L
  top : w.heap[k.pb]? = some (.cells (pcells k c) 58)
  low : k.base ≤ k.pb
  kl : k.keep.length ≤ 9223372036854775807
  kept : ∀ (j : Nat) (h : j < k.keep.length), ∃ ad, k.A = some ad ∧ w.cell? (ad.add j) = some (.int .i64 k.keep[j]) ∧ (∀ r ∈ L, ad.block ≠ r.2.1) ∧ ad.block ≠ k.pb
theorem cell_of_block {w w' : World} {a : Addr} (h : w'.heap[a.block]? = w.heap[a.block]?) : w'.cell? a = w.cell? a := by
  unfold World.cell?
  rw [h]
theorem cell_not_map {w : World} {a : Addr} {v : Value} {es : Array MapEntry} {n : Nat} (h : w.cell? a = some v) (hm : w.heap[a.block]? = some (.map es n)) : False := by
  unfold World.cell? at h
  rw [hm] at h
  cases h
/-- Of what lay there, none but the map, the disk's files and the power were written; a new file lies in a new block. -/
structure TurnP (w w' : World) (k : PW) (L L' : Lf) : Prop where
  apt : ∀ i, i < w.heap.size → i ≠ k.mb → i ≠ k.pb → (∀ p ∈ L, i ≠ p.2.1) → w'.heap[i]? = w.heap[i]?
  size : w.heap.size ≤ w'.heap.size
  news : ∀ r ∈ L', (∃ p ∈ L, r.2.1 = p.2.1) ∨ w.heap.size ≤ r.2.1
theorem Turn.p {w w' : World} {k : PW} {L L' : Lf} (h : Turn w w' k.mb L L') : TurnP w w' k L L' := ⟨fun i hi hm _ hn => h.apt i hi hm hn, h.size, h.news⟩
theorem TurnP.trans {w w1 w2 : World} {k : PW} {L L1 L2 : Lf} (h : TurnP w w1 k L L1) (h2 : TurnP w1 w2 k L1 L2) : TurnP w w2 k L L2 where
  apt := fun i hi hm hb hn => (h2.apt i (Nat.lt_of_lt_of_le hi h.size) hm hb (fun p hp e => by
    rcases h.news p hp with ⟨r, hr, e2⟩ | h3
    · exact hn r hr (e.trans e2)
    · omega)).trans (h.apt i hi hm hb hn)
  size := Nat.le_trans h.size h2.size
  news := fun r hr => by
    rcases h2.news r hr with ⟨p, hp, e⟩ | h3
    · rw [e]; exact h.news p hp
    · exact Or.inr (Nat.le_trans h.size h3)
theorem TurnP.of_below {w w' : World} (h : Below w.heap.size w w') (k : PW) (L : Lf) : TurnP w w' k L L := (Turn.of_below h k.mb L).p
theorem TurnP.set {w w1 : World} {k : PW} {L L1 : Lf} (h : TurnP w w1 k L L1) (j : Nat) (v : Value) : TurnP w (w1.setCell ⟨k.pb, j, none⟩ v) k L L1 :=
  ⟨fun i hi hm hb hn => (Below.heap_setCell _ _ _ _ hb).trans (h.apt i hi hm hb hn), by simp only [World.setCell, Array.size_modify]; exact h.size, h.news⟩
theorem IsP.ne_mb {w : World} {k : PW} {L : Lf} {c : PC} (h : IsP w k L c) : k.pb ≠ k.mb := fun e => by
  obtain ⟨es, clock, hb, _⟩ := h.disk.map
  have h1 := h.top
  rw [e, hb] at h1
  cases h1
theorem IsP.ne_file {w : World} {k : PW} {L : Lf} {c : PC} (h : IsP w k L c) : ∀ r ∈ L, k.pb ≠ r.2.1 := fun r hr e => by
  have h1 := h.top
  rw [e, h.disk.file r hr] at h1
  cases h1
theorem IsP.ne_d {w : World} {k : PW} {L : Lf} {c : PC} (h : IsP w k L c) : k.pb ≠ k.d := fun e => by
  have h1 := h.top
  rw [e, h.disk.top] at h1
  cases h1
theorem IsP.turned {w w' : World} {k : PW} {L L' : Lf} {c : PC} (h : IsP w k L c) (hD : IsD w' k.base k.d k.mb k.q L') (hT : Turn w w' k.mb L L') : IsP w' k L' c where
  disk := hD
  top := (hT.apt _ (heap_lt h.top) h.ne_mb h.ne_file).trans h.top
  low := h.low
  kl := h.kl
  kept := fun j hj => by
    obtain ⟨ad, hA, hc, hf, hp⟩ := h.kept j hj
    have hbl : (ad.add j).block = ad.block := add_block ad j
    have hlt := cell_lt hc
    rw [hbl] at hlt
    refine ⟨ad, hA, (cell_of_block ?_).trans hc, fun r hr => ?_, hp⟩
    · rw [hbl]
      refine hT.apt _ hlt (fun e => ?_) hf
      obtain ⟨es, clock, hb, _⟩ := h.disk.map
      exact cell_not_map hc (by rw [hbl, e]; exact hb)
    · rcases hT.news r hr with ⟨p, hp2, e⟩ | h3
      · rw [e]; exact hf p hp2
      · omega
theorem IsP.below {w w' : World} {k : PW} {L : Lf} {c : PC} (h : IsP w k L c) (hB : Below w.heap.size w w') : IsP w' k L c := h.turned (h.disk.below hB) (.of_below hB k.mb L)
theorem IsP.alloc {w : World} {k : PW} {L : Lf} {c : PC} (h : IsP w k L c) (o : Obj) : IsP (w.alloc o) k L c := h.below ((Below.refl _ w).alloc (Nat.le_refl _) o)
theorem IsP.drewN {w : World} {k : PW} {L : Lf} {c : PC} (h : IsP w k L c) (n : Nat) : IsP (w.drewN n) k L c := h.below (pw_below_drewN (Below.refl _ w) n)
theorem IsP.drew {w : World} {k : PW} {L : Lf} {c : PC} (h : IsP w k L c) : IsP w.drew k L c := h.below (Below.refl _ w).drew
theorem IsP.set {w : World} {k : PW} {L : Lf} {c : PC} (h : IsP w k L c) (j : Nat) (v : Value) {c' : PC} (hc : (pcells k c).setIfInBounds j v = pcells k c') : IsP (w.setCell ⟨k.pb, j, none⟩ v) k L c' where
  disk := h.disk.same fun i o hi hk => (Below.heap_setCell _ _ _ _ (by
    dsimp only
    rcases hk with rfl | rfl | ⟨p, hp, rfl⟩
    · exact fun e => h.ne_d e.symm
    · exact fun e => h.ne_mb e.symm
    · exact fun e => h.ne_file p hp e.symm)).trans hi
  top := by
    rw [Go.Joins.block_setCell h.top]
    exact congrArg (fun cs => some (Obj.cells cs 58)) hc
  low := h.low
  kl := h.kl
  kept := fun i hi => by
    obtain ⟨ad, hA, hc, hf, hp⟩ := h.kept i hi
    refine ⟨ad, hA, (cell_of_block ?_).trans hc, hf, hp⟩
    exact Below.heap_setCell _ _ _ _ (by rw [add_block]; exact hp)
theorem IsP.c {w : World} {k : PW} {L : Lf} {c : PC} (h : IsP w k L c) (j : Nat) {v : Value} (hv : (pcells k c)[j]? = some v) : w.cell? ⟨k.pb, j, none⟩ = some v := by simp [World.cell?, h.top, hv]
theorem IsP.fz {w : World} {k : PW} {L : Lf} {c : PC} (h : IsP w k L c) (j : Nat) : w.frozen? ⟨k.pb, j, none⟩ = false := blk_frozen h.top j
theorem IsP.size {w : World} {k : PW} {L : Lf} {c : PC} (h : IsP w k L c) : k.base ≤ w.heap.size := h.disk.size
/-! ### is, Down, Writes, Disk -/
theorem isp_calls (w : World) {k : PW} {L : Lf} {c : PC} (h : IsP w k L c) : Calls Tryz.prog 21 #[.pointer (some ⟨k.pb, 0, none⟩)] w fun e w' => e = .returned (.bool true) ∧ w' = w := by
  have h0 := h.c 0 (v := .pointer (some ⟨k.d, 0, none⟩)) rfl
  go_enter Tryz.func21, Tryz.ntmps21
  go_wp2
  go_ret
  exact ⟨rfl, rfl⟩
theorem down_calls (w : World) {k : PW} {L : Lf} {c : PC} (h : IsP w k L c) : Calls Tryz.prog 10 #[.pointer (some ⟨k.pb, 0, none⟩)] w fun e w' => e = .returned (.bool (c.off != 0)) ∧ w' = w := by
  have h4 := h.c 4 (v := .int .i64 c.off) rfl
  have H := Lib.hid h
  clear h
  go_enter Tryz.func10, Tryz.ntmps10
  go_wp2_with (first | (go_at_call 21; refine (isp_calls _ H.out).mono ?_; rintro e w' ⟨rfl, hw'⟩; obtain rfl := hw'.symm) | (go_at_call 22; refine (aload_calls _ ⟨k.pb, 4, none⟩ _ h4).mono ?_; rintro e w' ⟨rfl, hw'⟩; obtain rfl := hw'.symm))
  go_ret
  exact ⟨rfl, rfl⟩
theorem writes_calls (w : World) {k : PW} {L : Lf} {c : PC} (h : IsP w k L c) : Calls Tryz.prog 11 #[.pointer (some ⟨k.pb, 0, none⟩)] w fun e w' => e = .returned (.int .i64 c.wr) ∧ w' = w := by
  have h3 := h.c 3 (v := .int .i64 c.wr) rfl
  have H := Lib.hid h
  clear h
  go_enter Tryz.func11, Tryz.ntmps11
  go_wp2_with (first | (go_at_call 21; refine (isp_calls _ H.out).mono ?_; rintro e w' ⟨rfl, hw'⟩; obtain rfl := hw'.symm) | (go_at_call 22; refine (aload_calls _ ⟨k.pb, 3, none⟩ _ h3).mono ?_; rintro e w' ⟨rfl, hw'⟩; obtain rfl := hw'.symm))
  go_ret
  exact ⟨rfl, rfl⟩
/-! ### slices.Clone, New -/
theorem info3 : (Tryz.prog.info? 3).map (fun i => (i.zero, i.size, i.bytes)) = some (some (.int .i64 0), 1, 8) := by kernel_rfl
theorem clone_nil (w : World) (n c : Nat) : Calls Tryz.prog 15 #[.slice none n c] w fun e w' => e = .returned (.slice none 0 0) ∧ w' = w := by
  have q22 : ∀ (w : World) (a : Option Addr) (n c n' c' : Nat), (binOp .eql 22 (.slice a n c) (.slice none n' c')).run Tryz.prog w = .ok (.bool a.isNone) w := fun w a n c n' c' => Lib.run_eql_slice_nil w _ _ a n c n' c' Tryz.underlying22
  go_enter Tryz.func15, Tryz.ntmps15
  go_wp2
  go_ret
  exact ⟨rfl, rfl⟩
set_option maxHeartbeats 2000000 in
theorem clone_some (w : World) (ad : Addr) (n c : Nat) (news : List Value) (hl : news.length = n) (hn : n ≤ 1000000) (hc : ∀ j u, news[j]? = some u → w.cell? (ad.add j) = some u) (h1 : ∀ u ∈ news, u.oneCell' = true) :
    Calls Tryz.prog 15 #[.slice (some ad) n c] w fun e w' => ∃ v', e = .returned v' ∧ w'.ownsRow w.heap.size 3 1 v' n news ∧ Below w.heap.size w w' := by
  have q22 : ∀ (w : World) (a : Option Addr) (n c n' c' : Nat), (binOp .eql 22 (.slice a n c) (.slice none n' c')).run Tryz.prog w = .ok (.bool a.isNone) w := fun w a n c n' c' => Lib.run_eql_slice_nil w _ _ a n c n' c' Tryz.underlying22
  obtain ⟨i0, hi, hz0, hz1, hz2⟩ : ∃ i0, Tryz.prog.info? 3 = some i0 ∧ i0.zero = some (.int .i64 0) ∧ i0.size = 1 ∧ i0.bytes = 8 := info_parts info3
  have A := Lib.hid hc
  clear hc
  go_enter Tryz.func15, Tryz.ntmps15
  go_wp2_with (at_builtin; refine wpList_append_own _ rfl _ _ 22 rfl w.heap.size 3 i0 (.int .i64 0) 1 8 Tryz.underlying22 hi hz0 hz1 hz2 rfl (by decide) _ _ _ rfl (World.ownsRow_made w #[] 0 (Nat.le_refl _) (Nat.zero_le _) (by simp)) ad n c news rfl ?qc1 ?qc2 ?qc3 ?qc4 ?qc5 ?qc6 ?_)
  case qc1 => rw [hl]; omega
  case qc2 =>
    intro j u hj
    exact Lib.cell?_alloc_some _ (A.out j u hj)
  case qc3 => exact h1
  case qc4 => rw [Nat.zero_add]; unfold maxLen; omega
  case qc5 => rw [Nat.zero_add]; omega
  case qc6 => simp
  intro v' w1 hown hgrow hnil
  go_wp2
  go_ret
  refine ⟨v', rfl, by simpa using hown, ?_⟩
  exact ((Below.refl _ w).alloc (Nat.le_refl _) _).grown hgrow (by simp) (by intro k hk; simp [Value.ownBlock] at hk; omega)
end Go.Proofs.YtbffgpfkgmhmhaaGreat.Dw
/- A power: New, Blow, write, Create, Append, Sync (functions 15, 22, 48, 43, 18, 44, 19, 45, 20, 46). -/
set_option linter.unusedVariables false
set_option linter.unusedSimpArgs false
namespace Go.Proofs.YtbffgpfkgmhmhaaGreat.Dw
open Go.RowKit Go.Maps Go.Proofs.YtbffgpfkgmhmhaaGreatW.PrintWords Go.Proofs.YtbffgpfkgmhmhaaGreatW.PrintLast Go.Proofs.YtbffgpfkgmhmhaaGreatW.PrintMore Go.Proofs.Dk
set_option maxRecDepth 100000
/-- A cell that is not the disk's. -/
theorem Turn.cell {w w' : World} {base d mb q : Nat} {L L' : Lf} (h : Turn w w' mb L L') (hD : IsD w base d mb q L) {a : Addr} {v : Value} (hc : w.cell? a = some v) (hn : ∀ r ∈ L, a.block ≠ r.2.1) : w'.cell? a = w.cell? a :=
  cell_of_block (h.apt _ (cell_lt hc) (fun e => by
    obtain ⟨es, clock, hb, _⟩ := hD.map
    exact cell_not_map hc (by rw [e]; exact hb)) hn)
theorem kept_row {w : World} {B g : Nat} {cap : Nat} {keep : List Int} (h : w.ownsRow B 3 1 (.slice (some ⟨g, 0, none⟩) keep.length cap) keep.length (keep.map (Value.int .i64))) (j : Nat) (hj : j < keep.length) :
    w.cell? ((⟨g, 0, none⟩ : Addr).add j) = some (.int .i64 keep[j]) :=
  h.cells rfl j _ (by simp [hj])
theorem row_slice {w : World} {B : Nat} {v : Value} {n : Nat} {xs : List Value} (h : w.ownsRow B 3 1 v n xs) : ∃ A cap, v = .slice A n cap := by
  rcases h.2 with ⟨rfl, rfl⟩ | ⟨g, cap, cur, rfl, _⟩
  · exact ⟨_, _, rfl⟩
  · exact ⟨_, _, rfl⟩
set_option maxHeartbeats 1000000 in
theorem pnew_calls (w : World) {base d mb q : Nat} {L : Lf} (hD : IsD w base d mb q L) (fuse : Int) (A : Option Addr) (cap : Nat) (keep : List Int) (hkl : keep.length ≤ 1000000) (hA : A = none → keep = [])
    (hk : Nums w A keep) : Calls Tryz.prog 8 #[.pointer (some ⟨d, 0, none⟩), .int .i64 fuse, .slice A keep.length cap] w fun e w' =>
      ∃ pb A' cap', e = .returned (.pointer (some ⟨pb, 0, none⟩)) ∧ IsP w' ⟨base, d, mb, q, pb, fuse, A', cap', keep⟩ L ⟨0, 0, 0, 0⟩ ∧ Below w.heap.size w w' ∧ w.heap.size ≤ pb := by
  have HD := Lib.hid hD
  have HC0 : Calls Tryz.prog 15 #[.slice A keep.length cap] w fun e w' => ∃ v', e = .returned v' ∧ w'.ownsRow w.heap.size 3 1 v' keep.length (keep.map (Value.int .i64)) ∧ Below w.heap.size w w' := by
    cases A with
    | none =>
      obtain rfl := hA rfl
      refine (clone_nil w _ _).mono ?_
      rintro e w' ⟨rfl, rfl⟩
      exact ⟨_, rfl, ⟨by simp, Or.inl ⟨rfl, rfl⟩⟩, Below.refl _ _⟩
    | some ad =>
      refine clone_some w ad keep.length cap (keep.map (Value.int .i64)) (by simp) hkl (fun j u hj => ?_) (fun u hu => ?_)
      · have hj2 : j < keep.length := by
          have := (List.getElem?_eq_some_iff.1 hj).1
          simpa using this
        obtain ⟨ad', ha, hc⟩ := hk j hj2
        cases ha
        rw [hc]
        rw [List.getElem?_map, List.getElem?_eq_getElem hj2] at hj
        exact hj
      · obtain ⟨x, _, rfl⟩ := List.mem_map.1 hu
        rfl
  have HC := Lib.hid HC0
  clear hD hk hA HC0
  go_enter Tryz.func8, Tryz.ntmps8
  go_wp2_with (go_at_call 15; refine HC.out.mono ?_; rintro e w1 ⟨v', rfl, hown, hB⟩; obtain ⟨A', cap', rfl⟩ := row_slice hown; have HO := Lib.hid hown; have HB := Lib.hid hB; clear hown hB)
  go_ret
  have hD1 := HD.out.below HB.out
  have hlow : base ≤ w1.heap.size := hD1.size
  have hsz := HB.out.size
  refine ⟨w1.heap.size, A', cap', rfl, ?_, HB.out.trans ((Below.refl _ w1).alloc hsz _), hsz⟩
  refine ⟨hD1.alloc _, heap_alloc_new w1 _, hlow, by dsimp only; omega, fun j hj => ?_⟩
  dsimp only at hj
  rcases HO.out.2 with ⟨he, h0⟩ | ⟨g, cap2, cur, he, hg, hcur, _⟩
  · omega
  · obtain ⟨rfl, rfl⟩ : A' = some ⟨g, 0, none⟩ ∧ cap' = cap2 := by injection he with h1 h2 h3; exact ⟨h1, h3⟩
    have hc := kept_row HO.out j hj
    refine ⟨⟨g, 0, none⟩, rfl, cell_below hc ((Below.refl _ w1).alloc (Nat.le_refl _) _), fun r hr e => ?_, fun e => ?_⟩
    · have h1 := heap_lt (HD.out.file r hr)
      dsimp only at e
      omega
    · have h1 := heap_lt hcur
      dsimp only at e
      omega
/-! ### Blow -/
theorem blow1_calls (w : World) {k : PW} {L : Lf} {c : PC} (h : IsP w k L c) (x0 : Addr) (hx : w.cell? x0 = some (.pointer (some ⟨k.pb, 0, none⟩))) (hxt : ∀ r ∈ L, x0.block ≠ r.2.1) (hxp : x0.block ≠ k.pb) :
    Calls Tryz.prog 28 #[.pointer (some x0)] w fun e w' => (∃ v, e = .returned v) ∧ ∃ L', fs L' = crash k.keep (fs L) ∧ IsP w' k L' { c with off := 1 } ∧ Below k.base w w' ∧ TurnP w w' k L L' := by
  have H := Lib.hid h
  go_enter Tryz.func28, Tryz.ntmps28
  go_wp2_with fail
  refine start_ (n := 9) (S := (fun w' => w'.cell? x0 = some (.pointer (some ⟨k.pb, 0, none⟩)) ∧ ∃ L1 c1, IsP w' k L1 c1)) (ds := []) #[false, false, false, false, false, false, false, false, false] (by kernel_rfl) rfl rfl ⟨hx, _, _, h.drew⟩ (fun hHeld => ?_)
  refine take_ (i := 0) (N := some 1) (v := ?_) (a' := ?_) #[true, false, false, false, false, false, false, false, false] rfl rfl (by kernel_rfl) (fun _ _ _ h => h) (Or.inl ⟨by rfl, ?_⟩) hHeld ?_ ?_
  rotate_left
  · rintro w' ⟨hx1, L1, c1, hP1⟩
    have g0 := hP1.c 0 (v := .pointer (some ⟨k.d, 0, none⟩)) rfl
    have g2 := hP1.c 2 (v := .slice k.A k.keep.length k.cap) rfl
    go_simp
    with_reducible rfl
  rotate_left
  · simp only [Act.put, List.setIfInBounds_toArray, List.set_cons_zero, List.set_cons_succ, i64_w, i32_w]
    rfl
  refine pure_ (i := 1) (N := some 2) (v := ?_) (a' := ?_) #[true, true, false, false, false, false, false, false, false] rfl rfl (by kernel_rfl) (fun _ _ _ h => h) (Or.inl ⟨by rfl, ?_⟩) ?_ ?_
  rotate_left
  · intro w'
    go_simp
    with_reducible rfl
  rotate_left
  · simp only [Act.put, List.setIfInBounds_toArray, List.set_cons_zero, List.set_cons_succ, i64_w, i32_w]
    rfl
  refine pure_ (i := 2) (N := some 3) (v := ?_) (a' := ?_) #[true, true, true, false, false, false, false, false, false] rfl rfl (by kernel_rfl) (fun _ _ _ h => h) (Or.inl ⟨by rfl, ?_⟩) ?_ ?_
  rotate_left
  · intro w'
    go_simp
    with_reducible rfl
  rotate_left
  · simp only [Act.put, List.setIfInBounds_toArray, List.set_cons_zero, List.set_cons_succ, i64_w, i32_w]
    rfl
  refine take_ (i := 3) (N := some 4) (v := ?_) (a' := ?_) #[true, true, true, true, false, false, false, false, false] rfl rfl (by kernel_rfl) (fun _ _ _ h => h) (Or.inl ⟨by rfl, ?_⟩) hHeld ?_ ?_
  rotate_left
  · rintro w' ⟨hx1, L1, c1, hP1⟩
    have g0 := hP1.c 0 (v := .pointer (some ⟨k.d, 0, none⟩)) rfl
    have g2 := hP1.c 2 (v := .slice k.A k.keep.length k.cap) rfl
    go_simp
    with_reducible rfl
  rotate_left
  · simp only [Act.put, List.setIfInBounds_toArray, List.set_cons_zero, List.set_cons_succ, i64_w, i32_w]
    rfl
  refine take_ (i := 4) (N := some 5) (v := ?_) (a' := ?_) #[true, true, true, true, true, false, false, false, false] rfl rfl (by kernel_rfl) (fun _ _ _ h => h) (Or.inl ⟨by rfl, ?_⟩) hHeld ?_ ?_
  rotate_left
  · rintro w' ⟨hx1, L1, c1, hP1⟩
    have g0 := hP1.c 0 (v := .pointer (some ⟨k.d, 0, none⟩)) rfl
    have g2 := hP1.c 2 (v := .slice k.A k.keep.length k.cap) rfl
    go_simp
    with_reducible rfl
  rotate_left
  · simp only [Act.put, List.setIfInBounds_toArray, List.set_cons_zero, List.set_cons_succ, i64_w, i32_w]
    rfl
  refine pure_ (i := 5) (N := some 6) (v := ?_) (a' := ?_) #[true, true, true, true, true, true, false, false, false] rfl rfl (by kernel_rfl) (fun _ _ _ h => h) (Or.inl ⟨by rfl, ?_⟩) ?_ ?_
  rotate_left
  · intro w'
    go_simp
    with_reducible rfl
  rotate_left
  · simp only [Act.put, List.setIfInBounds_toArray, List.set_cons_zero, List.set_cons_succ, i64_w, i32_w]
    rfl
  refine pure_ (i := 6) (N := some 7) (v := ?_) (a' := ?_) #[true, true, true, true, true, true, true, false, false] rfl rfl (by kernel_rfl) (fun _ _ _ h => h) (Or.inl ⟨by rfl, ?_⟩) ?_ ?_
  rotate_left
  · intro w'
    go_simp
    with_reducible rfl
  rotate_left
  · simp only [Act.put, List.setIfInBounds_toArray, List.set_cons_zero, List.set_cons_succ, i64_w, i32_w]
    rfl
  refine take_ (i := 7) (N := some 8) (v := ?_) (a' := ?_) #[true, true, true, true, true, true, true, true, false] rfl rfl (by kernel_rfl) (fun _ _ _ h => h) (Or.inl ⟨by rfl, ?_⟩) hHeld ?_ ?_
  rotate_left
  · rintro w' ⟨hx1, L1, c1, hP1⟩
    have g0 := hP1.c 0 (v := .pointer (some ⟨k.d, 0, none⟩)) rfl
    have g2 := hP1.c 2 (v := .slice k.A k.keep.length k.cap) rfl
    go_simp
    with_reducible rfl
  rotate_left
  · simp only [Act.put, List.setIfInBounds_toArray, List.set_cons_zero, List.set_cons_succ, i64_w, i32_w]
    rfl
  refine one_ (i := 8) (N := some 9) #[true, true, true, true, true, true, true, true, true] rfl rfl (by kernel_rfl) (by decide) (fun K hK => ?_)
  refine goes_ Tryz.func29 (by kernel_rfl) rfl #[.pointer (some ⟨k.d, 0, none⟩), .slice k.A k.keep.length k.cap] (by rfl) rfl rfl (by simp only [List.map_toArray, List.map_cons, List.map_nil]; rfl) ?_
  refine (crash_full _ H.out.drew.disk k.A k.cap k.keep H.out.kl (fun j hj => by obtain ⟨ad, hA, hc, hf, hp⟩ := H.out.drew.kept j hj; exact ⟨ad, hA, hc, hf⟩)).mono ?_
  rintro e w5 ⟨⟨v, rfl⟩, hB5, L', hL', hD5, hT5⟩
  have HP5 := Lib.hid (H.out.drew.turned hD5 hT5)
  have HX5 := Lib.hid ((hT5.cell (H.out.drew.disk) hx hxt).trans hx)
  have HB5 := Lib.hid (((Below.refl k.base w).drew).trans hB5)
  have HT5 := Lib.hid ((TurnP.of_below (Below.refl _ w).drew k L).trans hT5.p)
  clear hB5 hD5 hT5 hx
  refine ⟨_, rfl, ?_⟩
  refine hK.out _ _ ⟨HX5.out, _, _, HP5.out⟩ (fun hHeld => ?_)
  clear hK K
  refine norm_ (a' := ?_) ?_ ?_
  rotate_left
  · show Act.put _ (some 9) _ = _
    simp only [Act.put, List.setIfInBounds_toArray, List.set_cons_zero, List.set_cons_succ, i64_w, i32_w]
    rfl
  refine done_ (by kernel_rfl) ?_
  clear h
  have x5 := HX5.out
  have c4 := HP5.out.c 4 (v := .int .i64 c.off) rfl
  have z4 := HP5.out.fz 4
  go_wp2_with (go_at_call 30; refine (astore_calls _ ⟨k.pb, 4, none⟩ 1 c4 z4).mono ?_; rintro e w6 ⟨rfl, hw'⟩; obtain rfl := hw'.symm)
  go_end0
  exact ⟨⟨_, rfl⟩, L', hL', HP5.out.set 4 (.int .i64 1) rfl, HB5.out.setCell (p := ⟨k.pb, 4, none⟩) HP5.out.low _, HT5.out.set 4 _⟩
/-- Not off: it goes off. -/
theorem blow_on (w : World) {k : PW} {L : Lf} {c : PC} (h : IsP w k L c) (hd : c.done = 0) (hm : c.mu = 0) : Calls Tryz.prog 13 #[.pointer (some ⟨k.pb, 0, none⟩)] w fun e w' =>
    (∃ v, e = .returned v) ∧ ∃ L', fs L' = crash k.keep (fs L) ∧ IsP w' k L' ⟨c.wr, 1, 1, 0⟩ ∧ Below k.base w w' ∧ TurnP w w' k L L' := by
  have hP1 := h.alloc (.cells #[.pointer (some ⟨k.pb, 0, none⟩)] 31)
  have hx1 : (w.alloc (.cells #[.pointer (some ⟨k.pb, 0, none⟩)] 31)).cell? ⟨w.heap.size, 0, none⟩ = some (.pointer (some ⟨k.pb, 0, none⟩)) := by simp
  have HI := Lib.hid (isp_calls _ hP1)
  have HB1 := Lib.hid ((Below.refl w.heap.size w).alloc (Nat.le_refl _) (.cells #[.pointer (some ⟨k.pb, 0, none⟩)] 31))
  have hpl := heap_lt h.top
  have hfl : ∀ r ∈ L, w.heap.size ≠ r.2.1 := fun r hr e => by have := heap_lt (h.disk.file r hr); omega
  have hsz := h.size
  generalize hW : w.alloc (.cells #[.pointer (some ⟨k.pb, 0, none⟩)] 31) = W at *
  have c5 : W.cell? ⟨k.pb, 5, none⟩ = some (.int .u32 0) := by have := hP1.c 5 (v := .int .u32 c.done) rfl; rwa [hd] at this
  have c6 : W.cell? ⟨k.pb, 5 + 1, none⟩ = some (.int .i32 0) := by have := hP1.c 6 (v := .int .i32 c.mu) rfl; rwa [hm] at this
  have hP2 := hP1.set 6 (.int .i32 1) (c' := { c with mu := 1 }) rfl
  have hx2 : (W.setCell ⟨k.pb, 5 + 1, none⟩ (.int .i32 1)).cell? ⟨w.heap.size, 0, none⟩ = some (.pointer (some ⟨k.pb, 0, none⟩)) := (cell_of_block (Below.heap_setCell _ _ _ _ (by dsimp only; omega))).trans hx1
  have HF := Lib.hid (do_first k.pb 5 ⟨w.heap.size, 0, none⟩ W _ c5 c6 (hP1.fz 6) (blow1_calls _ hP2 ⟨w.heap.size, 0, none⟩ hx2 hfl (by dsimp only; omega)) (fun w1 hw1 => by
    obtain ⟨L', hL', hP3, _, _⟩ := hw1
    have a5 := hP3.c 5 (v := .int .u32 c.done) rfl
    rw [hd] at a5
    exact ⟨a5, hP3.c 6 rfl, hP3.fz 5, hP3.fz 6⟩))
  have H1 := Lib.hid hP1
  clear c5 c6 hP2 hx2 hP1 h
  go_enter Tryz.func13, Tryz.ntmps13
  go_wp2_with (first | (go_at_call 21; refine HI.out.mono ?_; rintro e w' ⟨rfl, hw'⟩; obtain rfl := hw'.symm) | (go_at_call 27; refine HF.out.mono ?_; rintro e w' ⟨rfl, w1, ⟨L', hL', hP3, hB3, hT3⟩, rfl⟩; have HP3 := Lib.hid hP3; have HB3 := Lib.hid hB3; have HT3 := Lib.hid hT3; clear hP3 hB3 hT3))
  go_end0
  have hP4 := (HP3.out.drew.set 5 (.int .u32 1) (c' := ⟨c.wr, 1, 1, 1⟩) rfl).set 6 (.int .i32 0) (c' := ⟨c.wr, 1, 1, 0⟩) rfl
  have hB2 : Below k.base w (W.setCell ⟨k.pb, 6, none⟩ (.int .i32 1)) := (HB1.out.mono hsz).setCell (p := ⟨k.pb, 6, none⟩) H1.out.low _
  have hT2 : TurnP w (W.setCell ⟨k.pb, 6, none⟩ (.int .i32 1)) k L L := (TurnP.of_below HB1.out k L).set 6 _
  refine ⟨⟨_, rfl⟩, L', hL', hP4, ((((hB2.trans HB3.out).drew).setCell (p := ⟨k.pb, 5, none⟩) H1.out.low _).setCell (p := ⟨k.pb, 6, none⟩) H1.out.low _), ?_⟩
  exact (((hT2.trans HT3.out).trans (TurnP.of_below (Below.refl _ w1).drew k L')).set 5 _).set 6 _
/-! ### the closures of Create, Append, Sync -/
theorem create1_calls (w : World) {k : PW} {L : Lf} {c : PC} (h : IsP w k L c) (x0 x1 : Addr) (n : Tx) (hx : w.cell? x0 = some (.pointer (some ⟨k.pb, 0, none⟩))) (hx1 : w.cell? x1 = some (.string (bs n))) :
    Calls Tryz.prog 33 #[.pointer (some x0), .pointer (some x1)] w (DidT w k.base k.d k.mb k.q L (create (fs L) n)) := by
  have H := Lib.hid h
  clear h
  go_enter Tryz.func33, Tryz.ntmps33
  go_wp2_with fail
  refine start_ (n := 7) (S := (fun w' => w'.cell? x0 = some (.pointer (some ⟨k.pb, 0, none⟩)) ∧ w'.cell? x1 = some (.string (bs n)) ∧ IsP w' k L c)) (ds := [5]) #[false, false, false, false, false, false, false] (by kernel_rfl) rfl rfl ⟨hx, hx1, H.out.drew⟩ (fun hHeld => ?_)
  refine take_ (i := 0) (N := some 3) (v := ?_) (a' := ?_) #[true, false, false, false, false, false, false] rfl rfl (by kernel_rfl) (fun _ _ _ h => h) (Or.inl ⟨by rfl, ?_⟩) hHeld ?_ ?_
  rotate_left
  · rintro w' ⟨hx0, hy1, hP1⟩
    have g0 := hP1.c 0 (v := .pointer (some ⟨k.d, 0, none⟩)) rfl
    go_simp
    with_reducible rfl
  rotate_left
  · simp only [Act.put, List.setIfInBounds_toArray, List.set_cons_zero, List.set_cons_succ, i64_w, i32_w]
    rfl
  refine pure_ (i := 1) (N := some 4) (v := ?_) (a' := ?_) #[true, true, false, false, false, false, false] rfl rfl (by kernel_rfl) (fun _ _ _ h => h) (Or.inl ⟨by rfl, ?_⟩) ?_ ?_
  rotate_left
  · intro w'
    go_simp
    with_reducible rfl
  rotate_left
  · simp only [Act.put, List.setIfInBounds_toArray, List.set_cons_zero, List.set_cons_succ, i64_w, i32_w]
    rfl
  refine pure_ (i := 2) (N := some 5) (v := ?_) (a' := ?_) #[true, true, true, false, false, false, false] rfl rfl (by kernel_rfl) (fun _ _ _ h => h) (Or.inl ⟨by rfl, ?_⟩) ?_ ?_
  rotate_left
  · intro w'
    go_simp
    with_reducible rfl
  rotate_left
  · simp only [Act.put, List.setIfInBounds_toArray, List.set_cons_zero, List.set_cons_succ, i64_w, i32_w]
    rfl
  refine take_ (i := 3) (N := some 6) (v := ?_) (a' := ?_) #[true, true, true, true, false, false, false] rfl rfl (by kernel_rfl) (fun _ _ _ h => h) (Or.inl ⟨by rfl, ?_⟩) hHeld ?_ ?_
  rotate_left
  · rintro w' ⟨hx0, hy1, hP1⟩
    have g0 := hP1.c 0 (v := .pointer (some ⟨k.d, 0, none⟩)) rfl
    go_simp
    with_reducible rfl
  rotate_left
  · simp only [Act.put, List.setIfInBounds_toArray, List.set_cons_zero, List.set_cons_succ, i64_w, i32_w]
    rfl
  refine take_ (i := 4) (N := some 7) (v := ?_) (a' := ?_) #[true, true, true, true, true, false, false] rfl rfl (by kernel_rfl) (fun _ _ _ h => h) (Or.inl ⟨by rfl, ?_⟩) hHeld ?_ ?_
  rotate_left
  · rintro w' ⟨hx0, hy1, hP1⟩
    have g0 := hP1.c 0 (v := .pointer (some ⟨k.d, 0, none⟩)) rfl
    go_simp
    with_reducible rfl
  rotate_left
  · simp only [Act.put, List.setIfInBounds_toArray, List.set_cons_zero, List.set_cons_succ, i64_w, i32_w]
    rfl
  refine last_ (i := 5) (N := some 8) #[true, true, true, true, true, true, false] rfl rfl (by kernel_rfl) (by decide) (fun K hK => ?_)
  refine goes_ Tryz.func34 (by kernel_rfl) rfl #[.pointer (some ⟨k.d, 0, none⟩), .string (bs n)] (by rfl) rfl rfl (by simp only [List.map_toArray, List.map_cons, List.map_nil]; rfl) ?_
  refine (create_full _ H.out.drew.disk n).mono ?_
  rintro e w5 ⟨rfl, hB5, L', hL', hD5, hT5⟩
  refine ⟨_, rfl, ?_⟩
  refine hK.out _ _ ?_
  clear hK K
  refine norm_ (a' := ?_) ?_ ?_
  rotate_left
  · show Act.put _ (some 8) _ = _
    simp only [Act.put, List.setIfInBounds_toArray, List.set_cons_zero, List.set_cons_succ, i64_w, i32_w]
    rfl
  refine pure_ (i := 6) (N := some 2) (v := ?_) (a' := ?_) #[true, true, true, true, true, true, true] rfl rfl (by kernel_rfl) (fun _ _ _ h => h) (Or.inl ⟨by rfl, ?_⟩) ?_ ?_
  rotate_left
  · intro w'
    go_simp
    with_reducible rfl
  rotate_left
  · simp only [Act.put, List.setIfInBounds_toArray, List.set_cons_zero, List.set_cons_succ, i64_w, i32_w]
    rfl
  refine done_ (by kernel_rfl) ?_
  go_wp2_with fail
  go_ret
  exact ⟨rfl, ((Below.refl _ w).drew).trans hB5, L', hL', hD5, ((Turn.of_below (Below.refl _ w).drew k.mb L).trans hT5)⟩
theorem sync1_calls (w : World) {k : PW} {L : Lf} {c : PC} (h : IsP w k L c) (x0 x1 : Addr) (n : Tx) (hx : w.cell? x0 = some (.pointer (some ⟨k.pb, 0, none⟩))) (hx1 : w.cell? x1 = some (.string (bs n))) :
    Calls Tryz.prog 37 #[.pointer (some x0), .pointer (some x1)] w (DidT w k.base k.d k.mb k.q L (sync (fs L) n)) := by
  have H := Lib.hid h
  clear h
  go_enter Tryz.func37, Tryz.ntmps37
  go_wp2_with fail
  refine start_ (n := 7) (S := (fun w' => w'.cell? x0 = some (.pointer (some ⟨k.pb, 0, none⟩)) ∧ w'.cell? x1 = some (.string (bs n)) ∧ IsP w' k L c)) (ds := [5]) #[false, false, false, false, false, false, false] (by kernel_rfl) rfl rfl ⟨hx, hx1, H.out.drew⟩ (fun hHeld => ?_)
  refine take_ (i := 0) (N := some 3) (v := ?_) (a' := ?_) #[true, false, false, false, false, false, false] rfl rfl (by kernel_rfl) (fun _ _ _ h => h) (Or.inl ⟨by rfl, ?_⟩) hHeld ?_ ?_
  rotate_left
  · rintro w' ⟨hx0, hy1, hP1⟩
    have g0 := hP1.c 0 (v := .pointer (some ⟨k.d, 0, none⟩)) rfl
    go_simp
    with_reducible rfl
  rotate_left
  · simp only [Act.put, List.setIfInBounds_toArray, List.set_cons_zero, List.set_cons_succ, i64_w, i32_w]
    rfl
  refine pure_ (i := 1) (N := some 4) (v := ?_) (a' := ?_) #[true, true, false, false, false, false, false] rfl rfl (by kernel_rfl) (fun _ _ _ h => h) (Or.inl ⟨by rfl, ?_⟩) ?_ ?_
  rotate_left
  · intro w'
    go_simp
    with_reducible rfl
  rotate_left
  · simp only [Act.put, List.setIfInBounds_toArray, List.set_cons_zero, List.set_cons_succ, i64_w, i32_w]
    rfl
  refine pure_ (i := 2) (N := some 5) (v := ?_) (a' := ?_) #[true, true, true, false, false, false, false] rfl rfl (by kernel_rfl) (fun _ _ _ h => h) (Or.inl ⟨by rfl, ?_⟩) ?_ ?_
  rotate_left
  · intro w'
    go_simp
    with_reducible rfl
  rotate_left
  · simp only [Act.put, List.setIfInBounds_toArray, List.set_cons_zero, List.set_cons_succ, i64_w, i32_w]
    rfl
  refine take_ (i := 3) (N := some 6) (v := ?_) (a' := ?_) #[true, true, true, true, false, false, false] rfl rfl (by kernel_rfl) (fun _ _ _ h => h) (Or.inl ⟨by rfl, ?_⟩) hHeld ?_ ?_
  rotate_left
  · rintro w' ⟨hx0, hy1, hP1⟩
    have g0 := hP1.c 0 (v := .pointer (some ⟨k.d, 0, none⟩)) rfl
    go_simp
    with_reducible rfl
  rotate_left
  · simp only [Act.put, List.setIfInBounds_toArray, List.set_cons_zero, List.set_cons_succ, i64_w, i32_w]
    rfl
  refine take_ (i := 4) (N := some 7) (v := ?_) (a' := ?_) #[true, true, true, true, true, false, false] rfl rfl (by kernel_rfl) (fun _ _ _ h => h) (Or.inl ⟨by rfl, ?_⟩) hHeld ?_ ?_
  rotate_left
  · rintro w' ⟨hx0, hy1, hP1⟩
    have g0 := hP1.c 0 (v := .pointer (some ⟨k.d, 0, none⟩)) rfl
    go_simp
    with_reducible rfl
  rotate_left
  · simp only [Act.put, List.setIfInBounds_toArray, List.set_cons_zero, List.set_cons_succ, i64_w, i32_w]
    rfl
  refine last_ (i := 5) (N := some 8) #[true, true, true, true, true, true, false] rfl rfl (by kernel_rfl) (by decide) (fun K hK => ?_)
  refine goes_ Tryz.func38 (by kernel_rfl) rfl #[.pointer (some ⟨k.d, 0, none⟩), .string (bs n)] (by rfl) rfl rfl (by simp only [List.map_toArray, List.map_cons, List.map_nil]; rfl) ?_
  refine (sync_full _ H.out.drew.disk n).mono ?_
  rintro e w5 ⟨rfl, hB5, L', hL', hD5, hT5⟩
  refine ⟨_, rfl, ?_⟩
  refine hK.out _ _ ?_
  clear hK K
  refine norm_ (a' := ?_) ?_ ?_
  rotate_left
  · show Act.put _ (some 8) _ = _
    simp only [Act.put, List.setIfInBounds_toArray, List.set_cons_zero, List.set_cons_succ, i64_w, i32_w]
    rfl
  refine pure_ (i := 6) (N := some 2) (v := ?_) (a' := ?_) #[true, true, true, true, true, true, true] rfl rfl (by kernel_rfl) (fun _ _ _ h => h) (Or.inl ⟨by rfl, ?_⟩) ?_ ?_
  rotate_left
  · intro w'
    go_simp
    with_reducible rfl
  rotate_left
  · simp only [Act.put, List.setIfInBounds_toArray, List.set_cons_zero, List.set_cons_succ, i64_w, i32_w]
    rfl
  refine done_ (by kernel_rfl) ?_
  go_wp2_with fail
  go_ret
  exact ⟨rfl, ((Below.refl _ w).drew).trans hB5, L', hL', hD5, ((Turn.of_below (Below.refl _ w).drew k.mb L).trans hT5)⟩
theorem append1_calls (w : World) {k : PW} {L : Lf} {c : PC} (h : IsP w k L c) (x0 x1 x2 : Addr) (n b : Tx) (hb : b.length ≤ 100000) (hx : w.cell? x0 = some (.pointer (some ⟨k.pb, 0, none⟩))) (hx1 : w.cell? x1 = some (.string (bs n))) (hx2 : w.cell? x2 = some (.string (bs b))) :
    Calls Tryz.prog 35 #[.pointer (some x0), .pointer (some x1), .pointer (some x2)] w (DidT w k.base k.d k.mb k.q L (append k.q (fs L) n b)) := by
  have H := Lib.hid h
  clear h
  go_enter Tryz.func35, Tryz.ntmps35
  go_wp2_with fail
  refine start_ (n := 8) (S := (fun w' => w'.cell? x0 = some (.pointer (some ⟨k.pb, 0, none⟩)) ∧ w'.cell? x1 = some (.string (bs n)) ∧ w'.cell? x2 = some (.string (bs b)) ∧ IsP w' k L c)) (ds := [6]) #[false, false, false, false, false, false, false, false] (by kernel_rfl) rfl rfl ⟨hx, hx1, hx2, H.out.drew⟩ (fun hHeld => ?_)
  refine take_ (i := 0) (N := some 4) (v := ?_) (a' := ?_) #[true, false, false, false, false, false, false, false] rfl rfl (by kernel_rfl) (fun _ _ _ h => h) (Or.inl ⟨by rfl, ?_⟩) hHeld ?_ ?_
  rotate_left
  · rintro w' ⟨hx0, hy1, hy2, hP1⟩
    have g0 := hP1.c 0 (v := .pointer (some ⟨k.d, 0, none⟩)) rfl
    go_simp
    with_reducible rfl
  rotate_left
  · simp only [Act.put, List.setIfInBounds_toArray, List.set_cons_zero, List.set_cons_succ, i64_w, i32_w]
    rfl
  refine pure_ (i := 1) (N := some 5) (v := ?_) (a' := ?_) #[true, true, false, false, false, false, false, false] rfl rfl (by kernel_rfl) (fun _ _ _ h => h) (Or.inl ⟨by rfl, ?_⟩) ?_ ?_
  rotate_left
  · intro w'
    go_simp
    with_reducible rfl
  rotate_left
  · simp only [Act.put, List.setIfInBounds_toArray, List.set_cons_zero, List.set_cons_succ, i64_w, i32_w]
    rfl
  refine pure_ (i := 2) (N := some 6) (v := ?_) (a' := ?_) #[true, true, true, false, false, false, false, false] rfl rfl (by kernel_rfl) (fun _ _ _ h => h) (Or.inl ⟨by rfl, ?_⟩) ?_ ?_
  rotate_left
  · intro w'
    go_simp
    with_reducible rfl
  rotate_left
  · simp only [Act.put, List.setIfInBounds_toArray, List.set_cons_zero, List.set_cons_succ, i64_w, i32_w]
    rfl
  refine take_ (i := 3) (N := some 7) (v := ?_) (a' := ?_) #[true, true, true, true, false, false, false, false] rfl rfl (by kernel_rfl) (fun _ _ _ h => h) (Or.inl ⟨by rfl, ?_⟩) hHeld ?_ ?_
  rotate_left
  · rintro w' ⟨hx0, hy1, hy2, hP1⟩
    have g0 := hP1.c 0 (v := .pointer (some ⟨k.d, 0, none⟩)) rfl
    go_simp
    with_reducible rfl
  rotate_left
  · simp only [Act.put, List.setIfInBounds_toArray, List.set_cons_zero, List.set_cons_succ, i64_w, i32_w]
    rfl
  refine take_ (i := 4) (N := some 8) (v := ?_) (a' := ?_) #[true, true, true, true, true, false, false, false] rfl rfl (by kernel_rfl) (fun _ _ _ h => h) (Or.inl ⟨by rfl, ?_⟩) hHeld ?_ ?_
  rotate_left
  · rintro w' ⟨hx0, hy1, hy2, hP1⟩
    have g0 := hP1.c 0 (v := .pointer (some ⟨k.d, 0, none⟩)) rfl
    go_simp
    with_reducible rfl
  rotate_left
  · simp only [Act.put, List.setIfInBounds_toArray, List.set_cons_zero, List.set_cons_succ, i64_w, i32_w]
    rfl
  refine take_ (i := 5) (N := some 9) (v := ?_) (a' := ?_) #[true, true, true, true, true, true, false, false] rfl rfl (by kernel_rfl) (fun _ _ _ h => h) (Or.inl ⟨by rfl, ?_⟩) hHeld ?_ ?_
  rotate_left
  · rintro w' ⟨hx0, hy1, hy2, hP1⟩
    have g0 := hP1.c 0 (v := .pointer (some ⟨k.d, 0, none⟩)) rfl
    go_simp
    with_reducible rfl
  rotate_left
  · simp only [Act.put, List.setIfInBounds_toArray, List.set_cons_zero, List.set_cons_succ, i64_w, i32_w]
    rfl
  refine last_ (i := 6) (N := some 10) #[true, true, true, true, true, true, true, false] rfl rfl (by kernel_rfl) (by decide) (fun K hK => ?_)
  refine goes_ Tryz.func36 (by kernel_rfl) rfl #[.pointer (some ⟨k.d, 0, none⟩), .string (bs n), .string (bs b)] (by rfl) rfl rfl (by simp only [List.map_toArray, List.map_cons, List.map_nil]; rfl) ?_
  refine (append_turn _ H.out.drew.disk n b hb).mono ?_
  rintro e w5 ⟨rfl, hB5, L', hL', hD5, hT5⟩
  refine ⟨_, rfl, ?_⟩
  refine hK.out _ _ ?_
  clear hK K
  refine norm_ (a' := ?_) ?_ ?_
  rotate_left
  · show Act.put _ (some 10) _ = _
    simp only [Act.put, List.setIfInBounds_toArray, List.set_cons_zero, List.set_cons_succ, i64_w, i32_w]
    rfl
  refine pure_ (i := 7) (N := some 3) (v := ?_) (a' := ?_) #[true, true, true, true, true, true, true, true] rfl rfl (by kernel_rfl) (fun _ _ _ h => h) (Or.inl ⟨by rfl, ?_⟩) ?_ ?_
  rotate_left
  · intro w'
    go_simp
    with_reducible rfl
  rotate_left
  · simp only [Act.put, List.setIfInBounds_toArray, List.set_cons_zero, List.set_cons_succ, i64_w, i32_w]
    rfl
  refine done_ (by kernel_rfl) ?_
  go_wp2_with fail
  go_ret
  exact ⟨rfl, ((Below.refl _ w).drew).trans hB5, L', hL', hD5, ((Turn.of_below (Below.refl _ w).drew k.mb L).trans hT5)⟩
end Go.Proofs.YtbffgpfkgmhmhaaGreat.Dw
/- A power: write, Create, Append, Sync, Read, List (functions 43, 18, 19, 20, 25, 21). -/
set_option linter.unusedVariables false
set_option linter.unusedSimpArgs false
namespace Go.Proofs.Dk
/-- A power in plain words: its disk's files, its writes, whether it is off. -/
structure PS where
  l : FS
  wr : Nat
  dn : Bool
/-- Is the first number to keep odd? -/
def oddK : List Int → Bool
  | [] => false
  | x :: _ => bits .and .i64 x 1 == 1
/-- A write. -/
def pw (fuse : Int) (keep : List Int) (f : FS → FS × Nat) (s : PS) : PS × Nat :=
  if s.dn then (s, 8) else if (s.wr : Int) = fuse then (⟨crash keep (if oddK keep then (f s.l).1 else s.l), s.wr + 1, true⟩, 8) else (⟨(f s.l).1, s.wr + 1, false⟩, (f s.l).2)
def onI (b : Bool) : Int := if b then 1 else 0
end Go.Proofs.Dk
namespace Go.Proofs.YtbffgpfkgmhmhaaGreat.Dw
open Go.RowKit Go.Maps Go.Proofs.YtbffgpfkgmhmhaaGreatW.PrintWords Go.Proofs.YtbffgpfkgmhmhaaGreatW.PrintLast Go.Proofs.YtbffgpfkgmhmhaaGreatW.PrintMore Go.Proofs.Dk
set_option maxRecDepth 100000
def pcOf (s : PS) : PC := ⟨s.wr, onI s.dn, onI s.dn, 0⟩
def DidP (w : World) (k : PW) (L : Lf) (r : PS × Nat) (e : Ending) (w' : World) : Prop :=
  e = .returned (.int .i64 (r.2 : Int)) ∧ Below k.base w w' ∧ ∃ L', fs L' = r.1.l ∧ IsP w' k L' (pcOf r.1) ∧ TurnP w w' k L L'
theorem down_s (w : World) {k : PW} {L : Lf} {s : PS} (h : IsP w k L (pcOf s)) : Calls Tryz.prog 10 #[.pointer (some ⟨k.pb, 0, none⟩)] w fun e w' => e = .returned (.bool s.dn) ∧ w' = w := by
  refine (down_calls w h).mono ?_
  rintro e w' ⟨rfl, rfl⟩
  refine ⟨?_, rfl⟩
  cases hd : s.dn <;> simp [pcOf, onI, hd] <;> rfl
theorem add_zero' (ad : Addr) : ad.add 0 = ad := by
  obtain ⟨b, o, e⟩ := ad
  cases e <;> simp [Addr.add]
theorem pw_off {fuse : Int} {keep : List Int} {f : FS → FS × Nat} {s : PS} (h : s.dn = true) : pw fuse keep f s = (s, 8) := by simp [pw, h]
theorem pw_miss {fuse : Int} {keep : List Int} {f : FS → FS × Nat} {s : PS} (h : s.dn = false) (h2 : ¬ (s.wr : Int) = fuse) : pw fuse keep f s = (⟨(f s.l).1, s.wr + 1, false⟩, (f s.l).2) := by simp [pw, h, h2]
theorem pw_hit {fuse : Int} {keep : List Int} {f : FS → FS × Nat} {s : PS} (h : s.dn = false) (h2 : (s.wr : Int) = fuse) : pw fuse keep f s = (⟨crash keep (if oddK keep then (f s.l).1 else s.l), s.wr + 1, true⟩, 8) := by simp [pw, h, h2]
set_option maxHeartbeats 2000000 in
theorem write_calls (w : World) {k : PW} {L : Lf} {s : PS} (h : IsP w k L (pcOf s)) (hl : fs L = s.l) (hwr : s.wr < 1000000000) (hfu : -1 ≤ k.fuse ∧ k.fuse ≤ 1000000000) (F : FuncId) (caps : Array Value)
    (hrun : ∀ W, (callFunc F caps).run Tryz.prog W = .ok (.enter F caps) W) (f : FS → FS × Nat) (Bx : World → Prop) (hBx : Bx w) (hBd : ∀ W, Bx W → Bx W.drew) (hBs : ∀ W, Bx W → ∀ v, Bx (W.setCell ⟨k.pb, 3, none⟩ v))
    (hcb : ∀ W L1 c1, IsP W k L1 c1 → Bx W → Calls Tryz.prog F caps W (DidT W k.base k.d k.mb k.q L1 (f (fs L1)))) :
    Calls Tryz.prog 32 #[.pointer (some ⟨k.pb, 0, none⟩), .func (.func F) #[] caps] w (DidP w k L (pw k.fuse k.keep f s)) := by
  have HI := Lib.hid (isp_calls _ h)
  have HDn := Lib.hid (down_s _ h)
  have H := Lib.hid h
  have HL := Lib.hid hl
  have HCb := Lib.hid hcb
  have HBx := Lib.hid (hBs _ (hBd _ hBx) (.int .i64 ((s.wr : Int) + 1)))
  clear hcb hBs hBd hBx hl
  cases hd : s.dn with
  | true =>
    have hr := Lib.hid (pw_off (fuse := k.fuse) (keep := k.keep) (f := f) hd)
    rw [hd] at HDn
    clear h hrun hd
    go_enter Tryz.func32, Tryz.ntmps32
    go_wp2_with (first | (go_at_call 21; refine HI.out.mono ?_; rintro e w' ⟨rfl, hw'⟩; obtain rfl := hw'.symm) | (go_at_call 10; refine HDn.out.mono ?_; rintro e w' ⟨rfl, hw'⟩; obtain rfl := hw'.symm))
    go_ret
    exact ⟨by rw [hr.out]; rfl, Below.refl _ _, L, by rw [hr.out]; exact HL.out, by rw [hr.out]; exact H.out, .of_below (Below.refl _ _) k L⟩
  | false =>
    rw [hd] at HDn
    have c1 := h.drew.c 1 (v := .int .i64 k.fuse) rfl
    have c3 := h.drew.c 3 (v := .int .i64 s.wr) rfl
    have z3 := h.drew.fz 3
    have hw1 : IntKind.i64.wrap ((s.wr : Int) + 1) = (s.wr : Int) + 1 := IntWalk.i64_in _ ⟨by omega, by omega⟩
    have hw2 : IntKind.i64.wrap (k.fuse + 1) = k.fuse + 1 := IntWalk.i64_in _ ⟨by omega, by omega⟩
    have hP1 := h.drew.set 3 (.int .i64 ((s.wr : Int) + 1)) (c' := ⟨(s.wr : Int) + 1, onI s.dn, onI s.dn, 0⟩) rfl
    have hc1 := hP1.c 1 (v := .int .i64 k.fuse) rfl
    rw [hd] at hP1
    have hP1' : IsP (w.drew.setCell ⟨k.pb, 3, none⟩ (.int .i64 ((s.wr : Int) + 1))) k L (pcOf ⟨s.l, s.wr + 1, false⟩) := by
      have e : pcOf ⟨s.l, s.wr + 1, false⟩ = ⟨(s.wr : Int) + 1, onI false, onI false, 0⟩ := by simp [pcOf]
      rw [e]; exact hP1
    have HP1 := Lib.hid hP1'
    have HB1 := Lib.hid ((Below.refl k.base w).drew.setCell (p := ⟨k.pb, 3, none⟩) h.low (.int .i64 ((s.wr : Int) + 1)))
    have HT1 := Lib.hid ((TurnP.of_below (Below.refl _ w).drew k L).set 3 (.int .i64 ((s.wr : Int) + 1)))
    clear h hP1 hP1'
    by_cases hm : (s.wr : Int) = k.fuse
    · have hr := Lib.hid (pw_hit (keep := k.keep) (f := f) hd hm)
      have d1 : ((s.wr : Int) + 1 != k.fuse + 1) = false := by simp; omega
      have d2 : decide (k.fuse < 0) = false := decide_eq_false (by omega)
      clear hd hm
      go_enter Tryz.func32, Tryz.ntmps32
      go_wp2_with (first | (go_at_call 21; refine HI.out.mono ?_; rintro e w' ⟨rfl, hw'⟩; obtain rfl := hw'.symm) | (go_at_call 10; refine HDn.out.mono ?_; rintro e w' ⟨rfl, hw'⟩; obtain rfl := hw'.symm))
      refine start_ (n := 17) (S := (fun w' => w'.cell? ⟨k.pb, 1, none⟩ = some (.int .i64 k.fuse))) (ds := []) #[false, false, false, false, false, false, false, false, false, false, false, false, false, false, false, false, false] (by kernel_rfl) rfl rfl c1 (fun hHeld => ?_)
      refine pure_ (i := 0) (N := some 12) (v := ?_) (a' := ?_) #[true, false, false, false, false, false, false, false, false, false, false, false, false, false, false, false, false] rfl rfl (by kernel_rfl) (fun _ _ _ h => h) (Or.inl ⟨by rfl, ?_⟩) ?_ ?_
      rotate_left
      · intro w'
        go_simp
        with_reducible rfl
      rotate_left
      · simp only [Act.put, List.setIfInBounds_toArray, List.set_cons_zero, List.set_cons_succ, i64_w, i32_w]
        rfl
      refine pure_ (i := 1) (N := some 13) (v := ?_) (a' := ?_) #[true, true, false, false, false, false, false, false, false, false, false, false, false, false, false, false, false] rfl rfl (by kernel_rfl) (fun _ _ _ h => h) (Or.inl ⟨by rfl, ?_⟩) ?_ ?_
      rotate_left
      · intro w'
        go_simp
        with_reducible rfl
      rotate_left
      · simp only [Act.put, List.setIfInBounds_toArray, List.set_cons_zero, List.set_cons_succ, i64_w, i32_w]
        rfl
      refine pure_ (i := 2) (N := some 14) (v := ?_) (a' := ?_) #[true, true, true, false, false, false, false, false, false, false, false, false, false, false, false, false, false] rfl rfl (by kernel_rfl) (fun _ _ _ h => h) (Or.inl ⟨by rfl, ?_⟩) ?_ ?_
      rotate_left
      · intro w'
        go_simp
        with_reducible rfl
      rotate_left
      · simp only [Act.put, List.setIfInBounds_toArray, List.set_cons_zero, List.set_cons_succ, i64_w, i32_w]
        rfl
      refine pure_ (i := 4) (N := some 16) (v := ?_) (a' := ?_) #[true, true, true, false, true, false, false, false, false, false, false, false, false, false, false, false, false] rfl rfl (by kernel_rfl) (fun _ _ _ h => h) (Or.inl ⟨by rfl, ?_⟩) ?_ ?_
      rotate_left
      · intro w'
        go_simp
        with_reducible rfl
      rotate_left
      · simp only [Act.put, List.setIfInBounds_toArray, List.set_cons_zero, List.set_cons_succ, i64_w, i32_w]
        rfl
      refine pure_ (i := 5) (N := some 17) (v := ?_) (a' := ?_) #[true, true, true, false, true, true, false, false, false, false, false, false, false, false, false, false, false] rfl rfl (by kernel_rfl) (fun _ _ _ h => h) (Or.inl ⟨by rfl, ?_⟩) ?_ ?_
      rotate_left
      · intro w'
        go_simp
        with_reducible rfl
      rotate_left
      · simp only [Act.put, List.setIfInBounds_toArray, List.set_cons_zero, List.set_cons_succ, i64_w, i32_w]
        rfl
      refine pure_ (i := 6) (N := some 18) (v := ?_) (a' := ?_) #[true, true, true, false, true, true, true, false, false, false, false, false, false, false, false, false, false] rfl rfl (by kernel_rfl) (fun _ _ _ h => h) (Or.inl ⟨by rfl, ?_⟩) ?_ ?_
      rotate_left
      · intro w'
        go_simp
        with_reducible rfl
      rotate_left
      · simp only [Act.put, List.setIfInBounds_toArray, List.set_cons_zero, List.set_cons_succ, i64_w, i32_w]
        rfl
      refine take_ (i := 7) (N := some 19) (v := ?_) (a' := ?_) #[true, true, true, false, true, true, true, true, false, false, false, false, false, false, false, false, false] rfl rfl (by kernel_rfl) (fun _ _ _ h => h) (Or.inl ⟨by rfl, ?_⟩) hHeld ?_ ?_
      rotate_left
      · rintro w' hS1
        go_simp
        with_reducible rfl
      rotate_left
      · simp only [Act.put, List.setIfInBounds_toArray, List.set_cons_zero, List.set_cons_succ, i64_w, i32_w]
        rfl
      refine pure_ (i := 8) (N := some 20) (v := ?_) (a' := ?_) #[true, true, true, false, true, true, true, true, true, false, false, false, false, false, false, false, false] rfl rfl (by kernel_rfl) (fun _ _ _ h => h) (Or.inl ⟨by rfl, ?_⟩) ?_ ?_
      rotate_left
      · intro w'
        go_simp
        with_reducible rfl
      rotate_left
      · simp only [Act.put, List.setIfInBounds_toArray, List.set_cons_zero, List.set_cons_succ, i64_w, i32_w]
        rfl
      refine one_ (i := 3) (N := some 15) #[true, true, true, true, true, true, true, true, true, false, false, false, false, false, false, false, false] rfl rfl (by kernel_rfl) (by decide) (fun K hK => ?_)
      refine goes_ Tryz.func49 (by kernel_rfl) rfl #[.pointer (some ⟨k.pb, 3, none⟩), .int .i64 1] (by rfl) rfl rfl (by simp only [List.map_toArray, List.map_cons, List.map_nil]; rfl) ?_
      refine (aadd_calls _ ⟨k.pb, 3, none⟩ _ (s.wr + 1) c3 z3 hw1).mono ?_
      rintro e w5 ⟨rfl, rfl⟩
      refine ⟨_, rfl, ?_⟩
      refine hK.out _ _ hc1 (fun hHeld => ?_)
      clear hK K
      refine norm_ (a' := ?_) ?_ ?_
      rotate_left
      · show Act.put _ (some 15) _ = _
        simp only [Act.put, List.setIfInBounds_toArray, List.set_cons_zero, List.set_cons_succ, i64_w, i32_w]
        rfl
      refine pure_ (i := 9) (N := some 21) (v := ?_) (a' := ?_) #[true, true, true, true, true, true, true, true, true, true, false, false, false, false, false, false, false] rfl rfl (by kernel_rfl) (fun _ _ _ h => h) (Or.inl ⟨by rfl, ?_⟩) ?_ ?_
      rotate_left
      · intro w'
        go_simp
        with_reducible rfl
      rotate_left
      · simp only [Act.put, List.setIfInBounds_toArray, List.set_cons_zero, List.set_cons_succ, i64_w, i32_w]
        rfl
      refine pure_ (i := 10) (N := some 22) (v := ?_) (a' := ?_) #[true, true, true, true, true, true, true, true, true, true, true, false, false, false, false, false, false] rfl rfl (by kernel_rfl) (fun _ _ _ h => h) (Or.inl ⟨by rfl, ?_⟩) ?_ ?_
      rotate_left
      · intro w'
        go_simp
        with_reducible rfl
      rotate_left
      · simp only [Act.put, List.setIfInBounds_toArray, List.set_cons_zero, List.set_cons_succ, i64_w, i32_w]
        rfl
      refine pure_ (i := 11) (N := some 23) (v := ?_) (a' := ?_) #[true, true, true, true, true, true, true, true, true, true, true, true, false, false, false, false, false] rfl rfl (by kernel_rfl) (fun _ _ _ h => h) (Or.inl ⟨by rfl, ?_⟩) ?_ ?_
      rotate_left
      · intro w'
        go_simp
        with_reducible rfl
      rotate_left
      · simp only [Act.put, List.setIfInBounds_toArray, List.set_cons_zero, List.set_cons_succ, i64_w, i32_w]
        rfl
      refine pure_ (i := 12) (N := some 24) (v := ?_) (a' := ?_) #[true, true, true, true, true, true, true, true, true, true, true, true, true, false, false, false, false] rfl rfl (by kernel_rfl) (fun _ _ _ h => h) (Or.inl ⟨by rfl, ?_⟩) ?_ ?_
      rotate_left
      · intro w'
        go_simp
        with_reducible rfl
      rotate_left
      · simp only [Act.put, List.setIfInBounds_toArray, List.set_cons_zero, List.set_cons_succ, i64_w, i32_w]
        rfl
      refine pure_ (i := 13) (N := some 25) (v := ?_) (a' := ?_) #[true, true, true, true, true, true, true, true, true, true, true, true, true, true, false, false, false] rfl rfl (by kernel_rfl) (fun _ _ _ h => h) (Or.inl ⟨by rfl, ?_⟩) ?_ ?_
      rotate_left
      · intro w'
        go_simp
        with_reducible rfl
      rotate_left
      · simp only [Act.put, List.setIfInBounds_toArray, List.set_cons_zero, List.set_cons_succ, i64_w, i32_w]
        rfl
      refine take_ (i := 14) (N := some 26) (v := ?_) (a' := ?_) #[true, true, true, true, true, true, true, true, true, true, true, true, true, true, true, false, false] rfl rfl (by kernel_rfl) (fun _ _ _ h => h) (Or.inl ⟨by rfl, ?_⟩) hHeld ?_ ?_
      rotate_left
      · rintro w' hS1
        go_simp
        with_reducible rfl
      rotate_left
      · simp only [Act.put, List.setIfInBounds_toArray, List.set_cons_zero, List.set_cons_succ, i64_w, i32_w]
        rfl
      refine pure_ (i := 15) (N := some 27) (v := ?_) (a' := ?_) #[true, true, true, true, true, true, true, true, true, true, true, true, true, true, true, true, false] rfl rfl (by kernel_rfl) (fun _ _ _ h => h) (Or.inl ⟨by rfl, ?_⟩) ?_ ?_
      rotate_left
      · intro w'
        go_simp
        with_reducible rfl
      rotate_left
      · simp only [Act.put, List.setIfInBounds_toArray, List.set_cons_zero, List.set_cons_succ, i64_w, i32_w]
        rfl
      refine pure_ (i := 16) (N := some 28) (v := ?_) (a' := ?_) #[true, true, true, true, true, true, true, true, true, true, true, true, true, true, true, true, true] rfl rfl (by kernel_rfl) (fun _ _ _ h => h) (Or.inl ⟨by rfl, ?_⟩) ?_ ?_
      rotate_left
      · intro w'
        go_simp
        with_reducible rfl
      rotate_left
      · simp only [Act.put, List.setIfInBounds_toArray, List.set_cons_zero, List.set_cons_succ, i64_w, i32_w]
        rfl
      refine done_ (by kernel_rfl) ?_
      have hf1 : fs L = s.l := HL.out
      generalize (w.drew.setCell ⟨k.pb, 3, none⟩ (.int .i64 ((s.wr : Int) + 1))) = W1 at *
      clear c1 c3 z3 hw1 hw2 hc1 hHeld
      cases hk : k.keep with
      | nil =>
        rw [hk] at hr
        have c2 : W1.cell? ⟨k.pb, 2, none⟩ = some (.slice k.A (0 : Nat) k.cap) := by have := HP1.out.c 2 (v := .slice k.A k.keep.length k.cap) rfl; rw [hk] at this; exact this
        go_wp2_with fail
        refine (blow_on _ HP1.out rfl rfl).mono ?_
        rintro e w5 ⟨⟨v, rfl⟩, L', hL', hP5, hB5, hT5⟩
        have HP5 := Lib.hid hP5
        have HB5 := Lib.hid (HB1.out.trans hB5)
        have HT5 := Lib.hid (HT1.out.trans hT5)
        have HL5 := Lib.hid hL'
        clear hB5 hP5 hT5 hL'
        go_wp2_with fail
        go_ret
        rw [hk, hr.out]
        refine ⟨rfl, HB5.out, L', ?_, HP5.out, HT5.out⟩
        rw [HL5.out, hk, HL.out]
        rfl
      | cons x r =>
        have c2 : W1.cell? ⟨k.pb, 2, none⟩ = some (.slice k.A ((r.length + 1 : Nat)) k.cap) := by have := HP1.out.c 2 (v := .slice k.A k.keep.length k.cap) rfl; rw [hk] at this; exact this
        obtain ⟨ad, hA, hx0, _, _⟩ := HP1.out.kept 0 (by rw [hk]; simp)
        have hx : W1.cell? ad = some (.int .i64 x) := by rw [add_zero'] at hx0; simpa [hk] using hx0
        rw [hA] at c2
        clear hx0
        cases hodd : (bits .and .i64 x 1 == 1) with
        | false =>
          have ho : oddK (x :: r) = false := hodd
          rw [hk, ho] at hr
          go_wp2_with fail
          refine (blow_on _ HP1.out rfl rfl).mono ?_
          rintro e w5 ⟨⟨v, rfl⟩, L', hL', hP5, hB5, hT5⟩
          have HP5 := Lib.hid hP5
          have HB5 := Lib.hid (HB1.out.trans hB5)
          have HT5 := Lib.hid (HT1.out.trans hT5)
          have HL5 := Lib.hid hL'
          clear hB5 hP5 hT5 hL'
          go_wp2_with fail
          go_ret
          rw [hk, hr.out]
          refine ⟨rfl, HB5.out, L', ?_, HP5.out, HT5.out⟩
          rw [HL5.out, hk, HL.out]
          rfl
        | true =>
          have ho : oddK (x :: r) = true := hodd
          rw [hk, ho] at hr
          go_wp2_with fail
          refine (HCb.out _ L _ HP1.out HBx.out).mono ?_
          rintro e w4 ⟨rfl, hB4, L4, hL4, hD4, hT4⟩
          have HP4 := Lib.hid (HP1.out.turned hD4 hT4)
          have HB4 := Lib.hid (HB1.out.trans hB4)
          have HT4 := Lib.hid (HT1.out.trans hT4.p)
          have HL4 := Lib.hid hL4
          clear hB4 hD4 hT4 hL4
          go_wp2_with fail
          refine (blow_on _ HP4.out rfl rfl).mono ?_
          rintro e w5 ⟨⟨v, rfl⟩, L', hL', hP5, hB5, hT5⟩
          have HP5 := Lib.hid hP5
          have HB5 := Lib.hid (HB4.out.trans hB5)
          have HT5 := Lib.hid (HT4.out.trans hT5)
          have HL5 := Lib.hid hL'
          clear hB5 hP5 hT5 hL'
          go_wp2_with fail
          go_ret
          rw [hk, hr.out]
          refine ⟨rfl, HB5.out, L', ?_, HP5.out, HT5.out⟩
          rw [HL5.out, hk, HL4.out, HL.out]
          rfl
    · have hr := Lib.hid (pw_miss (keep := k.keep) (f := f) hd hm)
      have d1 : ((s.wr : Int) + 1 != k.fuse + 1) = true := by simp; omega
      clear hd hm
      go_enter Tryz.func32, Tryz.ntmps32
      go_wp2_with (first | (go_at_call 21; refine HI.out.mono ?_; rintro e w' ⟨rfl, hw'⟩; obtain rfl := hw'.symm) | (go_at_call 10; refine HDn.out.mono ?_; rintro e w' ⟨rfl, hw'⟩; obtain rfl := hw'.symm))
      refine start_ (n := 17) (S := (fun w' => w'.cell? ⟨k.pb, 1, none⟩ = some (.int .i64 k.fuse))) (ds := []) #[false, false, false, false, false, false, false, false, false, false, false, false, false, false, false, false, false] (by kernel_rfl) rfl rfl c1 (fun hHeld => ?_)
      refine pure_ (i := 0) (N := some 12) (v := ?_) (a' := ?_) #[true, false, false, false, false, false, false, false, false, false, false, false, false, false, false, false, false] rfl rfl (by kernel_rfl) (fun _ _ _ h => h) (Or.inl ⟨by rfl, ?_⟩) ?_ ?_
      rotate_left
      · intro w'
        go_simp
        with_reducible rfl
      rotate_left
      · simp only [Act.put, List.setIfInBounds_toArray, List.set_cons_zero, List.set_cons_succ, i64_w, i32_w]
        rfl
      refine pure_ (i := 1) (N := some 13) (v := ?_) (a' := ?_) #[true, true, false, false, false, false, false, false, false, false, false, false, false, false, false, false, false] rfl rfl (by kernel_rfl) (fun _ _ _ h => h) (Or.inl ⟨by rfl, ?_⟩) ?_ ?_
      rotate_left
      · intro w'
        go_simp
        with_reducible rfl
      rotate_left
      · simp only [Act.put, List.setIfInBounds_toArray, List.set_cons_zero, List.set_cons_succ, i64_w, i32_w]
        rfl
      refine pure_ (i := 2) (N := some 14) (v := ?_) (a' := ?_) #[true, true, true, false, false, false, false, false, false, false, false, false, false, false, false, false, false] rfl rfl (by kernel_rfl) (fun _ _ _ h => h) (Or.inl ⟨by rfl, ?_⟩) ?_ ?_
      rotate_left
      · intro w'
        go_simp
        with_reducible rfl
      rotate_left
      · simp only [Act.put, List.setIfInBounds_toArray, List.set_cons_zero, List.set_cons_succ, i64_w, i32_w]
        rfl
      refine pure_ (i := 4) (N := some 16) (v := ?_) (a' := ?_) #[true, true, true, false, true, false, false, false, false, false, false, false, false, false, false, false, false] rfl rfl (by kernel_rfl) (fun _ _ _ h => h) (Or.inl ⟨by rfl, ?_⟩) ?_ ?_
      rotate_left
      · intro w'
        go_simp
        with_reducible rfl
      rotate_left
      · simp only [Act.put, List.setIfInBounds_toArray, List.set_cons_zero, List.set_cons_succ, i64_w, i32_w]
        rfl
      refine pure_ (i := 5) (N := some 17) (v := ?_) (a' := ?_) #[true, true, true, false, true, true, false, false, false, false, false, false, false, false, false, false, false] rfl rfl (by kernel_rfl) (fun _ _ _ h => h) (Or.inl ⟨by rfl, ?_⟩) ?_ ?_
      rotate_left
      · intro w'
        go_simp
        with_reducible rfl
      rotate_left
      · simp only [Act.put, List.setIfInBounds_toArray, List.set_cons_zero, List.set_cons_succ, i64_w, i32_w]
        rfl
      refine pure_ (i := 6) (N := some 18) (v := ?_) (a' := ?_) #[true, true, true, false, true, true, true, false, false, false, false, false, false, false, false, false, false] rfl rfl (by kernel_rfl) (fun _ _ _ h => h) (Or.inl ⟨by rfl, ?_⟩) ?_ ?_
      rotate_left
      · intro w'
        go_simp
        with_reducible rfl
      rotate_left
      · simp only [Act.put, List.setIfInBounds_toArray, List.set_cons_zero, List.set_cons_succ, i64_w, i32_w]
        rfl
      refine take_ (i := 7) (N := some 19) (v := ?_) (a' := ?_) #[true, true, true, false, true, true, true, true, false, false, false, false, false, false, false, false, false] rfl rfl (by kernel_rfl) (fun _ _ _ h => h) (Or.inl ⟨by rfl, ?_⟩) hHeld ?_ ?_
      rotate_left
      · rintro w' hS1
        go_simp
        with_reducible rfl
      rotate_left
      · simp only [Act.put, List.setIfInBounds_toArray, List.set_cons_zero, List.set_cons_succ, i64_w, i32_w]
        rfl
      refine pure_ (i := 8) (N := some 20) (v := ?_) (a' := ?_) #[true, true, true, false, true, true, true, true, true, false, false, false, false, false, false, false, false] rfl rfl (by kernel_rfl) (fun _ _ _ h => h) (Or.inl ⟨by rfl, ?_⟩) ?_ ?_
      rotate_left
      · intro w'
        go_simp
        with_reducible rfl
      rotate_left
      · simp only [Act.put, List.setIfInBounds_toArray, List.set_cons_zero, List.set_cons_succ, i64_w, i32_w]
        rfl
      refine one_ (i := 3) (N := some 15) #[true, true, true, true, true, true, true, true, true, false, false, false, false, false, false, false, false] rfl rfl (by kernel_rfl) (by decide) (fun K hK => ?_)
      refine goes_ Tryz.func49 (by kernel_rfl) rfl #[.pointer (some ⟨k.pb, 3, none⟩), .int .i64 1] (by rfl) rfl rfl (by simp only [List.map_toArray, List.map_cons, List.map_nil]; rfl) ?_
      refine (aadd_calls _ ⟨k.pb, 3, none⟩ _ (s.wr + 1) c3 z3 hw1).mono ?_
      rintro e w5 ⟨rfl, rfl⟩
      refine ⟨_, rfl, ?_⟩
      refine hK.out _ _ hc1 (fun hHeld => ?_)
      clear hK K
      refine norm_ (a' := ?_) ?_ ?_
      rotate_left
      · show Act.put _ (some 15) _ = _
        simp only [Act.put, List.setIfInBounds_toArray, List.set_cons_zero, List.set_cons_succ, i64_w, i32_w]
        rfl
      refine pure_ (i := 9) (N := some 21) (v := ?_) (a' := ?_) #[true, true, true, true, true, true, true, true, true, true, false, false, false, false, false, false, false] rfl rfl (by kernel_rfl) (fun _ _ _ h => h) (Or.inl ⟨by rfl, ?_⟩) ?_ ?_
      rotate_left
      · intro w'
        go_simp
        with_reducible rfl
      rotate_left
      · simp only [Act.put, List.setIfInBounds_toArray, List.set_cons_zero, List.set_cons_succ, i64_w, i32_w]
        rfl
      refine pure_ (i := 10) (N := some 22) (v := ?_) (a' := ?_) #[true, true, true, true, true, true, true, true, true, true, true, false, false, false, false, false, false] rfl rfl (by kernel_rfl) (fun _ _ _ h => h) (Or.inl ⟨by rfl, ?_⟩) ?_ ?_
      rotate_left
      · intro w'
        go_simp
        with_reducible rfl
      rotate_left
      · simp only [Act.put, List.setIfInBounds_toArray, List.set_cons_zero, List.set_cons_succ, i64_w, i32_w]
        rfl
      refine pure_ (i := 11) (N := some 23) (v := undef) #[true, true, true, true, true, true, true, true, true, true, true, true, false, false, false, false, false] rfl rfl (by kernel_rfl) (fun _ _ _ h => h) (Or.inr ⟨by rfl, rfl⟩) rfl ?_
      refine norm_ (a' := ?_) ?_ ?_
      rotate_left
      · show Act.put _ (some 23) _ = _
        simp only [Act.put, List.setIfInBounds_toArray, List.set_cons_zero, List.set_cons_succ, i64_w, i32_w]
        rfl
      refine pure_ (i := 12) (N := some 24) (v := undef) #[true, true, true, true, true, true, true, true, true, true, true, true, true, false, false, false, false] rfl rfl (by kernel_rfl) (fun _ _ _ h => h) (Or.inr ⟨by rfl, rfl⟩) rfl ?_
      refine norm_ (a' := ?_) ?_ ?_
      rotate_left
      · show Act.put _ (some 24) _ = _
        simp only [Act.put, List.setIfInBounds_toArray, List.set_cons_zero, List.set_cons_succ, i64_w, i32_w]
        rfl
      refine pure_ (i := 13) (N := some 25) (v := undef) #[true, true, true, true, true, true, true, true, true, true, true, true, true, true, false, false, false] rfl rfl (by kernel_rfl) (fun _ _ _ h => h) (Or.inr ⟨by rfl, rfl⟩) rfl ?_
      refine norm_ (a' := ?_) ?_ ?_
      rotate_left
      · show Act.put _ (some 25) _ = _
        simp only [Act.put, List.setIfInBounds_toArray, List.set_cons_zero, List.set_cons_succ, i64_w, i32_w]
        rfl
      refine pure_ (i := 14) (N := some 26) (v := undef) #[true, true, true, true, true, true, true, true, true, true, true, true, true, true, true, false, false] rfl rfl (by kernel_rfl) (fun _ _ _ h => h) (Or.inr ⟨by rfl, rfl⟩) rfl ?_
      refine norm_ (a' := ?_) ?_ ?_
      rotate_left
      · show Act.put _ (some 26) _ = _
        simp only [Act.put, List.setIfInBounds_toArray, List.set_cons_zero, List.set_cons_succ, i64_w, i32_w]
        rfl
      refine pure_ (i := 15) (N := some 27) (v := undef) #[true, true, true, true, true, true, true, true, true, true, true, true, true, true, true, true, false] rfl rfl (by kernel_rfl) (fun _ _ _ h => h) (Or.inr ⟨by rfl, rfl⟩) rfl ?_
      refine norm_ (a' := ?_) ?_ ?_
      rotate_left
      · show Act.put _ (some 27) _ = _
        simp only [Act.put, List.setIfInBounds_toArray, List.set_cons_zero, List.set_cons_succ, i64_w, i32_w]
        rfl
      refine pure_ (i := 16) (N := some 28) (v := ?_) (a' := ?_) #[true, true, true, true, true, true, true, true, true, true, true, true, true, true, true, true, true] rfl rfl (by kernel_rfl) (fun _ _ _ h => h) (Or.inl ⟨by rfl, ?_⟩) ?_ ?_
      rotate_left
      · intro w'
        go_simp
        with_reducible rfl
      rotate_left
      · simp only [Act.put, List.setIfInBounds_toArray, List.set_cons_zero, List.set_cons_succ, i64_w, i32_w]
        rfl
      refine done_ (by kernel_rfl) ?_
      have hf1 : fs L = s.l := HL.out
      generalize (w.drew.setCell ⟨k.pb, 3, none⟩ (.int .i64 ((s.wr : Int) + 1))) = W1 at *
      clear c1 c3 z3 hw1 hw2 hc1 hHeld
      go_wp2_with fail
      refine (HCb.out _ L _ HP1.out HBx.out).mono ?_
      rintro e w5 ⟨rfl, hB5, L', hL', hD5, hT5⟩
      have HP5 := Lib.hid (HP1.out.turned hD5 hT5)
      have HB5 := Lib.hid (HB1.out.trans hB5)
      have HT5 := Lib.hid (HT1.out.trans hT5.p)
      have HL5 := Lib.hid hL'
      clear hB5 hD5 hT5 hL'
      go_wp2_with fail
      go_ret
      rw [hr.out]
      refine ⟨by rw [← HL.out]; rfl, HB5.out, L', by rw [HL5.out, HL.out], HP5.out, HT5.out⟩
/-! ### Create, Append, Sync -/
theorem enters (f : FuncId) (caps : Array Value) {fn : Func} (hf : Tryz.prog.funcs[f]? = some fn) (hname : (fn.name == "runtime.NumGoroutine") = false) (hb : fn.body.isSome = true) (W : World) : (callFunc f caps).run Tryz.prog W = .ok (.enter f caps) W := enters_ hf hname hb caps W
/-- Two boxes: the power's, a text's. -/
def Box2 (p n : Value) (x : Nat) (W : World) : Prop := W.cell? ⟨x, 0, none⟩ = some p ∧ W.cell? ⟨x + 1, 0, none⟩ = some n
theorem box_set {W : World} {x pb j : Nat} {v u : Value} (h : W.cell? ⟨x, 0, none⟩ = some v) (hx : x ≠ pb) : (W.setCell ⟨pb, j, none⟩ u).cell? ⟨x, 0, none⟩ = some v := (cell_of_block (Below.heap_setCell _ _ _ _ hx)).trans h
theorem box2_new (w : World) (p : Value) (t : TypeId) (n : Value) : Box2 p n w.heap.size ((w.alloc (.cells #[p] t)).alloc (.cells #[n] 9)) := ⟨by simp, by simp⟩
/-- Three. -/
def Box3 (p n b : Value) (x : Nat) (W : World) : Prop := W.cell? ⟨x, 0, none⟩ = some p ∧ W.cell? ⟨x + 1, 0, none⟩ = some n ∧ W.cell? ⟨x + 2, 0, none⟩ = some b
theorem box3_new (w : World) (p : Value) (t : TypeId) (n b : Value) : Box3 p n b w.heap.size (((w.alloc (.cells #[p] t)).alloc (.cells #[n] 9)).alloc (.cells #[b] 9)) :=
  ⟨cell_below (box2_new w p t n).1 ((Below.refl _ _).alloc (Nat.le_refl _) _), cell_below (box2_new w p t n).2 ((Below.refl _ _).alloc (Nat.le_refl _) _), by
    have := cell_new_l3 (w.alloc (.cells #[p] t)) (.cells #[n] 9) b 9
    rw [World.size_alloc] at this
    exact this⟩
set_option maxHeartbeats 1000000 in
theorem pcreate_calls (w : World) {k : PW} {L : Lf} {s : PS} (h : IsP w k L (pcOf s)) (hl : fs L = s.l) (hwr : s.wr < 1000000000) (hfu : -1 ≤ k.fuse ∧ k.fuse ≤ 1000000000) (n : Tx) :
    Calls Tryz.prog 16 #[.pointer (some ⟨k.pb, 0, none⟩), .string (bs n)] w (DidP w k L (pw k.fuse k.keep (fun l => create l n) s)) := by
  obtain ⟨W, hW⟩ : ∃ W, (w.alloc (.cells #[.pointer (some ⟨k.pb, 0, none⟩)] 31)).alloc (.cells #[.string (bs n)] 9) = W := ⟨_, rfl⟩
  have hB1 : Below w.heap.size w W := by rw [← hW]; exact ((Below.refl _ w).alloc (Nat.le_refl _) _).alloc (by simp) _
  have hbx : Box2 (.pointer (some ⟨k.pb, 0, none⟩)) (.string (bs n)) w.heap.size W := by
    rw [← hW]
    exact box2_new w _ 31 _
  have hpl := heap_lt h.top
  have HWr := Lib.hid (write_calls W (h.below hB1) hl hwr hfu 33 #[.pointer (some ⟨w.heap.size, 0, none⟩), .pointer (some ⟨w.heap.size + 1, 0, none⟩)] (enters 33 _ Tryz.func33 (by kernel_rfl) rfl) (fun l => create l n) (Box2 (.pointer (some ⟨k.pb, 0, none⟩)) (.string (bs n)) w.heap.size) hbx
    (fun _ h => h) (fun W hh v => ⟨box_set hh.1 (by omega), box_set hh.2 (by omega)⟩) (fun W L1 c1 hP hh => create1_calls W hP _ _ n hh.1 hh.2))
  have HB1 := Lib.hid hB1
  have hsz := h.size
  have hx0 := hbx.1
  clear h hB1 hbx
  go_enter Tryz.func16, Tryz.ntmps16
  go_wp2_with fail
  refine HWr.out.mono ?_
  rintro e w5 ⟨rfl, hB5, L', hL', hP5, hT5⟩
  have HP5 := Lib.hid hP5
  have HB5 := Lib.hid ((HB1.out.mono hsz).trans hB5)
  have HT5 := Lib.hid ((TurnP.of_below HB1.out k L).trans hT5)
  clear hB5 hP5 hT5
  go_wp2_with fail
  go_ret
  exact ⟨rfl, HB5.out, L', hL', HP5.out, HT5.out⟩
set_option maxHeartbeats 1000000 in
theorem psync_calls (w : World) {k : PW} {L : Lf} {s : PS} (h : IsP w k L (pcOf s)) (hl : fs L = s.l) (hwr : s.wr < 1000000000) (hfu : -1 ≤ k.fuse ∧ k.fuse ≤ 1000000000) (n : Tx) :
    Calls Tryz.prog 18 #[.pointer (some ⟨k.pb, 0, none⟩), .string (bs n)] w (DidP w k L (pw k.fuse k.keep (fun l => sync l n) s)) := by
  obtain ⟨W, hW⟩ : ∃ W, (w.alloc (.cells #[.pointer (some ⟨k.pb, 0, none⟩)] 31)).alloc (.cells #[.string (bs n)] 9) = W := ⟨_, rfl⟩
  have hB1 : Below w.heap.size w W := by rw [← hW]; exact ((Below.refl _ w).alloc (Nat.le_refl _) _).alloc (by simp) _
  have hbx : Box2 (.pointer (some ⟨k.pb, 0, none⟩)) (.string (bs n)) w.heap.size W := by
    rw [← hW]
    exact box2_new w _ 31 _
  have hpl := heap_lt h.top
  have HWr := Lib.hid (write_calls W (h.below hB1) hl hwr hfu 37 #[.pointer (some ⟨w.heap.size, 0, none⟩), .pointer (some ⟨w.heap.size + 1, 0, none⟩)] (enters 37 _ Tryz.func37 (by kernel_rfl) rfl) (fun l => sync l n) (Box2 (.pointer (some ⟨k.pb, 0, none⟩)) (.string (bs n)) w.heap.size) hbx
    (fun _ h => h) (fun W hh v => ⟨box_set hh.1 (by omega), box_set hh.2 (by omega)⟩) (fun W L1 c1 hP hh => sync1_calls W hP _ _ n hh.1 hh.2))
  have HB1 := Lib.hid hB1
  have hsz := h.size
  have hx0 := hbx.1
  clear h hB1 hbx
  go_enter Tryz.func18, Tryz.ntmps18
  go_wp2_with fail
  refine HWr.out.mono ?_
  rintro e w5 ⟨rfl, hB5, L', hL', hP5, hT5⟩
  have HP5 := Lib.hid hP5
  have HB5 := Lib.hid ((HB1.out.mono hsz).trans hB5)
  have HT5 := Lib.hid ((TurnP.of_below HB1.out k L).trans hT5)
  clear hB5 hP5 hT5
  go_wp2_with fail
  go_ret
  exact ⟨rfl, HB5.out, L', hL', HP5.out, HT5.out⟩
set_option maxHeartbeats 1000000 in
theorem pappend_calls (w : World) {k : PW} {L : Lf} {s : PS} (h : IsP w k L (pcOf s)) (hl : fs L = s.l) (hwr : s.wr < 1000000000) (hfu : -1 ≤ k.fuse ∧ k.fuse ≤ 1000000000) (n b : Tx) (hb : b.length ≤ 100000) :
    Calls Tryz.prog 17 #[.pointer (some ⟨k.pb, 0, none⟩), .string (bs n), .string (bs b)] w (DidP w k L (pw k.fuse k.keep (fun l => append k.q l n b) s)) := by
  obtain ⟨W, hW⟩ : ∃ W, ((w.alloc (.cells #[.pointer (some ⟨k.pb, 0, none⟩)] 31)).alloc (.cells #[.string (bs n)] 9)).alloc (.cells #[.string (bs b)] 9) = W := ⟨_, rfl⟩
  have hB1 : Below w.heap.size w W := by rw [← hW]; exact (((Below.refl _ w).alloc (Nat.le_refl _) _).alloc (by simp) _).alloc (by simp; omega) _
  have hbx : Box3 (.pointer (some ⟨k.pb, 0, none⟩)) (.string (bs n)) (.string (bs b)) w.heap.size W := by
    rw [← hW]
    exact box3_new w _ 31 _ _
  have hpl := heap_lt h.top
  have HWr := Lib.hid (write_calls W (h.below hB1) hl hwr hfu 35 #[.pointer (some ⟨w.heap.size, 0, none⟩), .pointer (some ⟨w.heap.size + 1, 0, none⟩), .pointer (some ⟨w.heap.size + 2, 0, none⟩)] (enters 35 _ Tryz.func35 (by kernel_rfl) rfl) (fun l => append k.q l n b) (Box3 (.pointer (some ⟨k.pb, 0, none⟩)) (.string (bs n)) (.string (bs b)) w.heap.size) hbx
    (fun _ h => h) (fun W hh v => ⟨box_set hh.1 (by omega), box_set hh.2.1 (by omega), box_set hh.2.2 (by omega)⟩) (fun W L1 c1 hP hh => append1_calls W hP _ _ _ n b hb hh.1 hh.2.1 hh.2.2))
  have HB1 := Lib.hid hB1
  have hsz := h.size
  have hx0 := hbx.1
  clear h hB1 hbx
  go_enter Tryz.func17, Tryz.ntmps17
  go_wp2_with fail
  refine HWr.out.mono ?_
  rintro e w5 ⟨rfl, hB5, L', hL', hP5, hT5⟩
  have HP5 := Lib.hid hP5
  have HB5 := Lib.hid ((HB1.out.mono hsz).trans hB5)
  have HT5 := Lib.hid ((TurnP.of_below HB1.out k L).trans hT5)
  clear hB5 hP5 hT5
  go_wp2_with fail
  go_ret
  exact ⟨rfl, HB5.out, L', hL', HP5.out, HT5.out⟩
theorem pread_off (w : World) {k : PW} {L : Lf} {s : PS} (h : IsP w k L (pcOf s)) (hd : s.dn = true) (n : Tx) : Calls Tryz.prog 31 #[.pointer (some ⟨k.pb, 0, none⟩), .string (bs n)] w fun e w' => e = .returned (.tuple #[.string ⟨#[]⟩, .int .i64 8]) ∧ w' = w := by
  have HI := Lib.hid (isp_calls _ h)
  have HDn := Lib.hid (down_s _ h)
  rw [hd] at HDn
  clear h hd
  go_enter Tryz.func31, Tryz.ntmps31
  go_wp2_with (first | (go_at_call 21; refine HI.out.mono ?_; rintro e w' ⟨rfl, hw'⟩; obtain rfl := hw'.symm) | (go_at_call 10; refine HDn.out.mono ?_; rintro e w' ⟨rfl, hw'⟩; obtain rfl := hw'.symm))
  go_ret2
  exact ⟨rfl, rfl⟩
end Go.Proofs.YtbffgpfkgmhmhaaGreat.Dw
/- The chapter's example of a power: left, awake (functions 24, 26). -/
set_option linter.unusedVariables false
set_option linter.unusedSimpArgs false
namespace Go.Proofs.Dk
/-- What the example's disk holds behind the fuse. -/
def leftF (keep : List Int) : FS := crash keep (if oddK keep then [([97], ⟨[120, 121, 122], 0⟩)] else [([97], ⟨[], 0⟩)])
def leftP (keep : List Int) : PS := ⟨leftF keep, 2, true⟩
def leftR (keep : List Int) : Tx := (read (leftF keep) [97]).1
end Go.Proofs.Dk
namespace Go.Proofs.YtbffgpfkgmhmhaaGreat.Dw
open Go.RowKit Go.Maps Go.Proofs.YtbffgpfkgmhmhaaGreatW.PrintWords Go.Proofs.YtbffgpfkgmhmhaaGreatW.PrintLast Go.Proofs.YtbffgpfkgmhmhaaGreatW.PrintMore Go.Proofs.Dk
set_option maxRecDepth 100000
theorem nums_below {w w' : World} {A : Option Addr} {l : List Int} (h : Nums w A l) (hB : Below w.heap.size w w') : Nums w' A l := fun j hj => by
  obtain ⟨ad, e, hc⟩ := h j hj
  exact ⟨ad, e, cell_below hc hB⟩
/-- New, by a power's parts alone. -/
theorem pnew_k (w : World) {base d mb q : Nat} {L : Lf} (hD : IsD w base d mb q L) (fuse : Int) (A : Option Addr) (cap : Nat) (keep : List Int) (hkl : keep.length ≤ 1000000) (hA : A = none → keep = [])
    (hk : Nums w A keep) : Calls Tryz.prog 8 #[.pointer (some ⟨d, 0, none⟩), .int .i64 fuse, .slice A keep.length cap] w fun e w' =>
      ∃ k : PW, e = .returned (.pointer (some ⟨k.pb, 0, none⟩)) ∧ k.base = base ∧ k.d = d ∧ k.q = q ∧ k.fuse = fuse ∧ k.keep = keep ∧ IsP w' k L (pcOf ⟨fs L, 0, false⟩) ∧ Below w.heap.size w w' := by
  refine (pnew_calls w hD fuse A cap keep hkl hA hk).mono ?_
  rintro e w' ⟨pb, A', cap', rfl, hP, hB, _⟩
  exact ⟨_, rfl, rfl, rfl, rfl, rfl, rfl, hP, hB⟩
theorem left_one (keep : List Int) : pw 1 keep (fun l => create l [97]) ⟨[], 0, false⟩ = (⟨[([97], ⟨[], 0⟩)], 1, false⟩, 0) := by
  rw [pw_miss rfl (by decide)]; rfl
theorem left_two (keep : List Int) : pw 1 keep (fun l => append 100 l [97] [120, 121, 122]) ⟨[([97], ⟨[], 0⟩)], 1, false⟩ = (leftP keep, 8) := by
  rw [pw_hit rfl (by decide)]; rfl
theorem left_three (keep : List Int) : pw 1 keep (fun l => append 100 l [97] [119]) (leftP keep) = (leftP keep, 8) := pw_off rfl
theorem left_read (keep : List Int) : read (leftF keep) [97] = (leftR keep, 0) := by
  unfold leftR leftF
  cases oddK keep <;> rfl
theorem left_12 : leftR [1, 2] = [120] := by decide
theorem left_0 : leftR [0] = [] := by decide
set_option maxHeartbeats 2000000 in
theorem left_calls (w : World) (A : Option Addr) (cap : Nat) (keep : List Int) (hkl : keep.length ≤ 1000000) (hA : A = none → keep = []) (hk : Nums w A keep) :
    Calls Tryz.prog 14 #[.int .i64 1, .slice A keep.length cap] w fun e w' => e = .returned (.string (bs (leftR keep))) ∧ Below w.heap.size w w' := by
  have HK := Lib.hid hk
  have HA := Lib.hid hA
  clear hk hA
  go_enter Tryz.func14, Tryz.ntmps14
  go_wp2_with fail
  refine (new_ok w 100 (by decide)).mono ?_
  rintro e w1 ⟨d, mb, rfl, hD, hB⟩
  have HD := Lib.hid hD
  have HB := Lib.hid hB
  clear hD hB
  go_wp2_with fail
  refine (pnew_k w1 HD.out 1 A cap keep hkl HA.out (nums_below HK.out HB.out)).mono ?_
  rintro e w2 ⟨k, rfl, hkb, rfl, hkq, hkf, rfl, hP, hB2⟩
  have HP := Lib.hid hP
  have HB2 := Lib.hid (HB.out.trans (hB2.mono HB.out.size))
  have HQ := Lib.hid hkq
  have HF := Lib.hid hkf
  have HKb := Lib.hid hkb
  clear hP hB2 hkq hkf hkb HD HB HK HA
  go_wp2_with fail
  refine (pcreate_calls w2 HP.out rfl (show (0 : Nat) < 1000000000 by decide) (by rw [HF.out]; decide) [97]).mono ?_
  rintro e w3 ⟨rfl, hB3, L3, hL3, hP3, _⟩
  rw [HF.out] at hL3 hP3
  rw [HF.out]
  have e1 := left_one k.keep
  rw [show (fs ([] : Lf)) = [] from rfl] at hL3 hP3 ⊢
  rw [e1] at hL3 hP3
  rw [e1]
  have HL3 := Lib.hid hL3
  have HP3 := Lib.hid hP3
  have HB3 := Lib.hid (HB2.out.trans (by rw [← HKb.out]; exact hB3))
  clear hL3 hP3 hB3 e1 HP HB2
  go_wp2_with fail
  refine (pappend_calls w3 HP3.out HL3.out (show (1 : Nat) < 1000000000 by decide) (by rw [HF.out]; decide) [97] [120, 121, 122] (by decide)).mono ?_
  rintro e w4 ⟨rfl, hB4, L4, hL4, hP4, _⟩
  rw [HF.out, HQ.out, left_two] at hL4 hP4
  rw [HF.out, HQ.out, left_two]
  have HL4 := Lib.hid hL4
  have HP4 := Lib.hid hP4
  have HB4 := Lib.hid (HB3.out.trans (by rw [← HKb.out]; exact hB4))
  clear hL4 hP4 hB4 HL3 HP3 HB3
  go_wp2_with fail
  refine (pappend_calls w4 HP4.out HL4.out (show (2 : Nat) < 1000000000 by decide) (by rw [HF.out]; decide) [97] [119] (by decide)).mono ?_
  rintro e w5 ⟨rfl, hB5, L5, hL5, hP5, _⟩
  rw [HF.out, HQ.out, left_three] at hL5 hP5
  rw [HF.out, HQ.out, left_three]
  have HL5 := Lib.hid hL5
  have HP5 := Lib.hid hP5
  have HB5 := Lib.hid (HB4.out.trans (by rw [← HKb.out]; exact hB5))
  clear hL5 hP5 hB5 HL4 HP4 HB4
  go_wp2_with fail
  refine (pread_off w5 HP5.out rfl [97]).mono ?_
  rintro e w6 ⟨rfl, hw6⟩
  obtain rfl := hw6.symm
  go_wp2_with fail
  refine (read_calls w5 HP5.out.disk [97]).mono ?_
  rintro e w7 ⟨rfl, hB7⟩
  rw [show fs L5 = leftF k.keep from HL5.out, left_read]
  have HP7 := Lib.hid (HP5.out.below hB7)
  have HB7 := Lib.hid (HB5.out.trans (hB7.mono HB5.out.size))
  clear hB7 HP5 HB5
  go_wp2_with fail
  refine (down_s w7 HP7.out).mono ?_
  rintro e w8 ⟨rfl, hw8⟩
  obtain rfl := hw8.symm
  rw [show (leftP k.keep).dn = true from rfl]
  go_wp2_with fail
  refine (writes_calls w7 HP7.out).mono ?_
  rintro e w8 ⟨rfl, hw8⟩
  obtain rfl := hw8.symm
  rw [show (pcOf (leftP k.keep)).wr = 2 from rfl]
  go_wp2_with fail
  go_ret
  exact ⟨rfl, HB7.out⟩
theorem cells_nums2 (w : World) (a b : Int) : Nums (w.alloc (.cells #[.int .i64 a, .int .i64 b] 3)) (some ⟨w.heap.size, 0, none⟩) [a, b] := fun j hj => by
  have hj2 : j < 2 := by simpa using hj
  have hn := heap_alloc_new w (.cells #[.int .i64 a, .int .i64 b] 3)
  rcases (show j = 0 ∨ j = 1 by omega) with rfl | rfl
  · refine ⟨⟨w.heap.size, 0, none⟩, rfl, ?_⟩
    show World.cell? _ ⟨w.heap.size, 0, none⟩ = some (.int .i64 a)
    unfold World.cell?
    rw [hn]
    rfl
  · refine ⟨⟨w.heap.size, 0, none⟩, rfl, ?_⟩
    show World.cell? _ ⟨w.heap.size, 1, none⟩ = some (.int .i64 b)
    unfold World.cell?
    rw [hn]
    rfl
theorem cells_nums1 (w : World) (a : Int) : Nums (w.alloc (.cells #[.int .i64 a] 3)) (some ⟨w.heap.size, 0, none⟩) [a] := fun j hj => by
  have hj2 : j < 1 := by simpa using hj
  obtain rfl : j = 0 := by omega
  have hn := heap_alloc_new w (.cells #[.int .i64 a] 3)
  refine ⟨⟨w.heap.size, 0, none⟩, rfl, ?_⟩
  show World.cell? _ ⟨w.heap.size, 0, none⟩ = some (.int .i64 a)
  unfold World.cell?
  rw [hn]
  rfl
theorem awake_calls (w : World) : Calls Tryz.prog 5 #[] w fun e w' => e = .returned (.bool true) ∧ Below w.heap.size w w' := by
  have hb1 := bs_toList [120]
  have hb0 := bs_toList []
  have HN2 := Lib.hid (cells_nums2 w 1 2)
  have HB1 := Lib.hid ((Below.refl w.heap.size w).alloc (Nat.le_refl _) (.cells #[.int .i64 1, .int .i64 2] 3))
  go_enter Tryz.func5, Tryz.ntmps5
  go_wp2_with fail
  refine (left_calls (w.alloc (.cells #[.int .i64 1, .int .i64 2] 3)) (some ⟨w.heap.size, 0, none⟩) 2 [1, 2] (by decide) (fun h => by cases h) HN2.out).mono ?_
  rintro e w2 ⟨rfl, hB2⟩
  rw [left_12]
  have HB2 := Lib.hid (HB1.out.trans (hB2.mono HB1.out.size))
  have HB3 := Lib.hid (HB2.out.alloc HB2.out.size (.cells #[.int .i64 0] 3))
  have HN1 := Lib.hid (cells_nums1 w2 0)
  clear hB2 HB1 HN2
  go_wp2_with fail
  refine (left_calls (w2.alloc (.cells #[.int .i64 0] 3)) (some ⟨w2.heap.size, 0, none⟩) 1 [0] (by decide) (fun h => by cases h) HN1.out).mono ?_
  rintro e w4 ⟨rfl, hB4⟩
  rw [left_0]
  have HB4 := Lib.hid (HB3.out.trans (hB4.mono HB3.out.size))
  clear hB4 HB3 HN1
  go_wp2_with fail
  go_ret
  exact ⟨rfl, HB4.out⟩
end Go.Proofs.YtbffgpfkgmhmhaaGreat.Dw
/- PowerCuts' plain law: writes over a power with a fuse, and over one without. -/
set_option linter.unusedVariables false
set_option linter.unusedSimpArgs false
namespace Go.Proofs.Dk
open Go.Proofs.YtbffgpfkgmhmhaaGreat.Dw
/-- A call: what, a name, another text. -/
structure Wr where
  k : Nat
  n : Tx
  o : Tx
def opF (q : Nat) (a : Wr) (l : FS) : FS × Nat :=
  match a.k % 8 with
  | 0 => create l a.n
  | 1 => append q l a.n a.o
  | 2 => sync l a.n
  | 3 => rename l a.n a.o
  | 4 => remove l a.n
  | _ => (l, 0)
def stepW (q : Nat) (fuse : Int) (keep : List Int) (s : PS) (a : Wr) : PS := if a.k % 8 < 5 then (pw fuse keep (opF q a) s).1 else s
def runS (q : Nat) (fuse : Int) (keep : List Int) (l : List Wr) (s : PS) : PS := l.foldl (stepW q fuse keep) s
def foldW (q : Nat) (l : List Wr) (s : FS) : FS := l.foldl (fun s a => (opF q a s).1) s
theorem runS_snoc (q : Nat) (fuse : Int) (keep : List Int) (l : List Wr) (a : Wr) (s : PS) : runS q fuse keep (l ++ [a]) s = stepW q fuse keep (runS q fuse keep l s) a := by
  simp [runS]
theorem stepW_wr (q : Nat) (fuse : Int) (keep : List Int) (s : PS) (a : Wr) : (stepW q fuse keep s a).wr ≤ s.wr + 1 := by
  unfold stepW pw
  split
  · split
    · simp
    · split <;> simp
  · simp
theorem runS_wr (q : Nat) (fuse : Int) (keep : List Int) (l : List Wr) : ∀ s : PS, (runS q fuse keep l s).wr ≤ s.wr + l.length := by
  induction l with
  | nil => intro s; simp [runS]
  | cons a r ih =>
    intro s
    have h1 := ih (stepW q fuse keep s a)
    have h2 := stepW_wr q fuse keep s a
    simp only [runS, List.foldl_cons, List.length_cons] at h1 ⊢
    omega
theorem run_off (q : Nat) (fuse : Int) (keep : List Int) (l : List Wr) : ∀ s : PS, s.dn = true → runS q fuse keep l s = s := by
  induction l with
  | nil => intro s _; rfl
  | cons a r ih =>
    intro s hd
    have h1 : stepW q fuse keep s a = s := by unfold stepW; rw [pw_off hd]; split <;> rfl
    simp only [runS, List.foldl_cons, h1]
    exact ih s hd
/-- No fuse is met. -/
theorem run_all (q : Nat) (fuse : Int) (keep : List Int) (l : List Wr) : ∀ s : PS, (∀ a ∈ l, a.k % 8 < 5) → s.dn = false → (∀ j, j < l.length → ((s.wr + j : Nat) : Int) ≠ fuse) →
    runS q fuse keep l s = ⟨foldW q l s.l, s.wr + l.length, false⟩ := by
  induction l with
  | nil => intro s _ hd _; simp only [runS, foldW, List.foldl_nil, List.length_nil, Nat.add_zero, ← hd]
  | cons a r ih =>
    intro s hw hd hf
    have h0 : ¬ (s.wr : Int) = fuse := hf 0 (by simp)
    have h1 : stepW q fuse keep s a = ⟨(opF q a s.l).1, s.wr + 1, false⟩ := by
      unfold stepW
      rw [if_pos (hw a (List.mem_cons_self ..)), pw_miss hd h0]
    simp only [runS, foldW, List.foldl_cons, h1]
    have := ih ⟨(opF q a s.l).1, s.wr + 1, false⟩ (fun b hb => hw b (List.mem_cons_of_mem _ hb)) rfl (fun j hj => by
      have := hf (j + 1) (by simpa using hj)
      rw [show s.wr + (j + 1) = s.wr + 1 + j by omega] at this
      exact this)
    rw [runS, foldW] at this
    rw [this]
    simp only [List.length_cons]
    congr 1
    omega
/-- The fuse is met: it is off. -/
theorem run_hit (q : Nat) (f : Nat) (keep : List Int) (l : List Wr) : ∀ s : PS, (∀ a ∈ l, a.k % 8 < 5) → s.dn = false → s.wr ≤ f → f < s.wr + l.length →
    runS q f keep l s = ⟨crash keep (foldW q (l.take (f - s.wr + if oddK keep then 1 else 0)) s.l), f + 1, true⟩ := by
  induction l with
  | nil => intro s _ _ h1 h2; simp at h2; omega
  | cons a r ih =>
    intro s hw hd h1 h2
    by_cases hf : s.wr = f
    · have h3 : stepW q f keep s a = ⟨crash keep (if oddK keep then (opF q a s.l).1 else s.l), s.wr + 1, true⟩ := by
        unfold stepW
        rw [if_pos (hw a (List.mem_cons_self ..)), pw_hit hd (by rw [hf])]
      simp only [runS, List.foldl_cons, h3]
      have h4 := run_off q f keep r ⟨crash keep (if oddK keep then (opF q a s.l).1 else s.l), s.wr + 1, true⟩ rfl
      rw [runS] at h4
      rw [h4, hf, Nat.sub_self]
      cases oddK keep <;> rfl
    · have h3 : stepW q f keep s a = ⟨(opF q a s.l).1, s.wr + 1, false⟩ := by
        unfold stepW
        rw [if_pos (hw a (List.mem_cons_self ..)), pw_miss hd (by omega)]
      simp only [runS, List.foldl_cons, h3]
      have h4 := ih ⟨(opF q a s.l).1, s.wr + 1, false⟩ (fun b hb => hw b (List.mem_cons_of_mem _ hb)) rfl (by dsimp only; omega) (by simp only [List.length_cons] at h2; dsimp only; omega)
      rw [runS] at h4
      rw [h4]
      dsimp only
      rw [show f - s.wr + (if oddK keep then 1 else 0) = (f - (s.wr + 1) + if oddK keep then 1 else 0) + 1 by omega, List.take_succ_cons]
      rfl
theorem run_q (q : Nat) (keep : List Int) (l : List Wr) (hw : ∀ a ∈ l, a.k % 8 < 5) : runS q (-1) keep l ⟨[], 0, false⟩ = ⟨foldW q l [], l.length, false⟩ := by
  have := run_all q (-1) keep l ⟨[], 0, false⟩ hw rfl (fun j _ => by dsimp only; omega)
  simpa using this
theorem run_p (q : Nat) (f : Nat) (keep : List Int) (l : List Wr) (hw : ∀ a ∈ l, a.k % 8 < 5) (h : l.length ≤ f) : runS q f keep l ⟨[], 0, false⟩ = ⟨foldW q l [], l.length, false⟩ := by
  have := run_all q f keep l ⟨[], 0, false⟩ hw rfl (fun j _ => by dsimp only; omega)
  simpa using this
theorem run_cut (q : Nat) (f : Nat) (keep : List Int) (l : List Wr) (hw : ∀ a ∈ l, a.k % 8 < 5) (h : f < l.length) : runS q f keep l ⟨[], 0, false⟩ = ⟨crash keep (foldW q (l.take (f + if oddK keep then 1 else 0)) []), f + 1, true⟩ := by
  have := run_hit q f keep l ⟨[], 0, false⟩ hw rfl (Nat.zero_le _) (by dsimp only; omega)
  simpa using this
end Go.Proofs.Dk
/- Rename, Remove over a power. -/
set_option linter.unusedVariables false
set_option linter.unusedSimpArgs false
namespace Go.Proofs.YtbffgpfkgmhmhaaGreat.Dw
open Go.RowKit Go.Maps Go.Proofs.YtbffgpfkgmhmhaaGreatW.PrintWords Go.Proofs.YtbffgpfkgmhmhaaGreatW.PrintLast Go.Proofs.YtbffgpfkgmhmhaaGreatW.PrintMore Go.Proofs.Dk
set_option maxRecDepth 100000
theorem remove1_calls (w : World) {k : PW} {L : Lf} {c : PC} (h : IsP w k L c) (x0 x1 : Addr) (n : Tx) (hx : w.cell? x0 = some (.pointer (some ⟨k.pb, 0, none⟩))) (hx1 : w.cell? x1 = some (.string (bs n))) :
    Calls Tryz.prog 41 #[.pointer (some x0), .pointer (some x1)] w (DidT w k.base k.d k.mb k.q L (remove (fs L) n)) := by
  have H := Lib.hid h
  clear h
  go_enter Tryz.func41, Tryz.ntmps41
  go_wp2_with fail
  refine start_ (n := 7) (S := (fun w' => w'.cell? x0 = some (.pointer (some ⟨k.pb, 0, none⟩)) ∧ w'.cell? x1 = some (.string (bs n)) ∧ IsP w' k L c)) (ds := [5]) #[false, false, false, false, false, false, false] (by kernel_rfl) rfl rfl ⟨hx, hx1, H.out.drew⟩ (fun hHeld => ?_)
  refine take_ (i := 0) (N := some 3) (v := ?_) (a' := ?_) #[true, false, false, false, false, false, false] rfl rfl (by kernel_rfl) (fun _ _ _ h => h) (Or.inl ⟨by rfl, ?_⟩) hHeld ?_ ?_
  rotate_left
  · rintro w' ⟨hx0, hy1, hP1⟩
    have g0 := hP1.c 0 (v := .pointer (some ⟨k.d, 0, none⟩)) rfl
    go_simp
    with_reducible rfl
  rotate_left
  · simp only [Act.put, List.setIfInBounds_toArray, List.set_cons_zero, List.set_cons_succ, i64_w, i32_w]
    rfl
  refine pure_ (i := 1) (N := some 4) (v := ?_) (a' := ?_) #[true, true, false, false, false, false, false] rfl rfl (by kernel_rfl) (fun _ _ _ h => h) (Or.inl ⟨by rfl, ?_⟩) ?_ ?_
  rotate_left
  · intro w'
    go_simp
    with_reducible rfl
  rotate_left
  · simp only [Act.put, List.setIfInBounds_toArray, List.set_cons_zero, List.set_cons_succ, i64_w, i32_w]
    rfl
  refine pure_ (i := 2) (N := some 5) (v := ?_) (a' := ?_) #[true, true, true, false, false, false, false] rfl rfl (by kernel_rfl) (fun _ _ _ h => h) (Or.inl ⟨by rfl, ?_⟩) ?_ ?_
  rotate_left
  · intro w'
    go_simp
    with_reducible rfl
  rotate_left
  · simp only [Act.put, List.setIfInBounds_toArray, List.set_cons_zero, List.set_cons_succ, i64_w, i32_w]
    rfl
  refine take_ (i := 3) (N := some 6) (v := ?_) (a' := ?_) #[true, true, true, true, false, false, false] rfl rfl (by kernel_rfl) (fun _ _ _ h => h) (Or.inl ⟨by rfl, ?_⟩) hHeld ?_ ?_
  rotate_left
  · rintro w' ⟨hx0, hy1, hP1⟩
    have g0 := hP1.c 0 (v := .pointer (some ⟨k.d, 0, none⟩)) rfl
    go_simp
    with_reducible rfl
  rotate_left
  · simp only [Act.put, List.setIfInBounds_toArray, List.set_cons_zero, List.set_cons_succ, i64_w, i32_w]
    rfl
  refine take_ (i := 4) (N := some 7) (v := ?_) (a' := ?_) #[true, true, true, true, true, false, false] rfl rfl (by kernel_rfl) (fun _ _ _ h => h) (Or.inl ⟨by rfl, ?_⟩) hHeld ?_ ?_
  rotate_left
  · rintro w' ⟨hx0, hy1, hP1⟩
    have g0 := hP1.c 0 (v := .pointer (some ⟨k.d, 0, none⟩)) rfl
    go_simp
    with_reducible rfl
  rotate_left
  · simp only [Act.put, List.setIfInBounds_toArray, List.set_cons_zero, List.set_cons_succ, i64_w, i32_w]
    rfl
  refine last_ (i := 5) (N := some 8) #[true, true, true, true, true, true, false] rfl rfl (by kernel_rfl) (by decide) (fun K hK => ?_)
  refine goes_ Tryz.func42 (by kernel_rfl) rfl #[.pointer (some ⟨k.d, 0, none⟩), .string (bs n)] (by rfl) rfl rfl (by simp only [List.map_toArray, List.map_cons, List.map_nil]; rfl) ?_
  refine (remove_full _ H.out.drew.disk n).mono ?_
  rintro e w5 ⟨rfl, hB5, L', hL', hD5, hT5⟩
  refine ⟨_, rfl, ?_⟩
  refine hK.out _ _ ?_
  clear hK K
  refine norm_ (a' := ?_) ?_ ?_
  rotate_left
  · show Act.put _ (some 8) _ = _
    simp only [Act.put, List.setIfInBounds_toArray, List.set_cons_zero, List.set_cons_succ, i64_w, i32_w]
    rfl
  refine pure_ (i := 6) (N := some 2) (v := ?_) (a' := ?_) #[true, true, true, true, true, true, true] rfl rfl (by kernel_rfl) (fun _ _ _ h => h) (Or.inl ⟨by rfl, ?_⟩) ?_ ?_
  rotate_left
  · intro w'
    go_simp
    with_reducible rfl
  rotate_left
  · simp only [Act.put, List.setIfInBounds_toArray, List.set_cons_zero, List.set_cons_succ, i64_w, i32_w]
    rfl
  refine done_ (by kernel_rfl) ?_
  go_wp2_with fail
  go_ret
  exact ⟨rfl, ((Below.refl _ w).drew).trans hB5, L', hL', hD5, ((Turn.of_below (Below.refl _ w).drew k.mb L).trans hT5)⟩
theorem rename1_calls (w : World) {k : PW} {L : Lf} {c : PC} (h : IsP w k L c) (x0 x1 x2 : Addr) (n b : Tx) (hx : w.cell? x0 = some (.pointer (some ⟨k.pb, 0, none⟩))) (hx1 : w.cell? x1 = some (.string (bs n))) (hx2 : w.cell? x2 = some (.string (bs b))) :
    Calls Tryz.prog 39 #[.pointer (some x0), .pointer (some x1), .pointer (some x2)] w (DidT w k.base k.d k.mb k.q L (rename (fs L) n b)) := by
  have H := Lib.hid h
  clear h
  go_enter Tryz.func39, Tryz.ntmps39
  go_wp2_with fail
  refine start_ (n := 8) (S := (fun w' => w'.cell? x0 = some (.pointer (some ⟨k.pb, 0, none⟩)) ∧ w'.cell? x1 = some (.string (bs n)) ∧ w'.cell? x2 = some (.string (bs b)) ∧ IsP w' k L c)) (ds := [6]) #[false, false, false, false, false, false, false, false] (by kernel_rfl) rfl rfl ⟨hx, hx1, hx2, H.out.drew⟩ (fun hHeld => ?_)
  refine take_ (i := 0) (N := some 4) (v := ?_) (a' := ?_) #[true, false, false, false, false, false, false, false] rfl rfl (by kernel_rfl) (fun _ _ _ h => h) (Or.inl ⟨by rfl, ?_⟩) hHeld ?_ ?_
  rotate_left
  · rintro w' ⟨hx0, hy1, hy2, hP1⟩
    have g0 := hP1.c 0 (v := .pointer (some ⟨k.d, 0, none⟩)) rfl
    go_simp
    with_reducible rfl
  rotate_left
  · simp only [Act.put, List.setIfInBounds_toArray, List.set_cons_zero, List.set_cons_succ, i64_w, i32_w]
    rfl
  refine pure_ (i := 1) (N := some 5) (v := ?_) (a' := ?_) #[true, true, false, false, false, false, false, false] rfl rfl (by kernel_rfl) (fun _ _ _ h => h) (Or.inl ⟨by rfl, ?_⟩) ?_ ?_
  rotate_left
  · intro w'
    go_simp
    with_reducible rfl
  rotate_left
  · simp only [Act.put, List.setIfInBounds_toArray, List.set_cons_zero, List.set_cons_succ, i64_w, i32_w]
    rfl
  refine pure_ (i := 2) (N := some 6) (v := ?_) (a' := ?_) #[true, true, true, false, false, false, false, false] rfl rfl (by kernel_rfl) (fun _ _ _ h => h) (Or.inl ⟨by rfl, ?_⟩) ?_ ?_
  rotate_left
  · intro w'
    go_simp
    with_reducible rfl
  rotate_left
  · simp only [Act.put, List.setIfInBounds_toArray, List.set_cons_zero, List.set_cons_succ, i64_w, i32_w]
    rfl
  refine take_ (i := 3) (N := some 7) (v := ?_) (a' := ?_) #[true, true, true, true, false, false, false, false] rfl rfl (by kernel_rfl) (fun _ _ _ h => h) (Or.inl ⟨by rfl, ?_⟩) hHeld ?_ ?_
  rotate_left
  · rintro w' ⟨hx0, hy1, hy2, hP1⟩
    have g0 := hP1.c 0 (v := .pointer (some ⟨k.d, 0, none⟩)) rfl
    go_simp
    with_reducible rfl
  rotate_left
  · simp only [Act.put, List.setIfInBounds_toArray, List.set_cons_zero, List.set_cons_succ, i64_w, i32_w]
    rfl
  refine take_ (i := 4) (N := some 8) (v := ?_) (a' := ?_) #[true, true, true, true, true, false, false, false] rfl rfl (by kernel_rfl) (fun _ _ _ h => h) (Or.inl ⟨by rfl, ?_⟩) hHeld ?_ ?_
  rotate_left
  · rintro w' ⟨hx0, hy1, hy2, hP1⟩
    have g0 := hP1.c 0 (v := .pointer (some ⟨k.d, 0, none⟩)) rfl
    go_simp
    with_reducible rfl
  rotate_left
  · simp only [Act.put, List.setIfInBounds_toArray, List.set_cons_zero, List.set_cons_succ, i64_w, i32_w]
    rfl
  refine take_ (i := 5) (N := some 9) (v := ?_) (a' := ?_) #[true, true, true, true, true, true, false, false] rfl rfl (by kernel_rfl) (fun _ _ _ h => h) (Or.inl ⟨by rfl, ?_⟩) hHeld ?_ ?_
  rotate_left
  · rintro w' ⟨hx0, hy1, hy2, hP1⟩
    have g0 := hP1.c 0 (v := .pointer (some ⟨k.d, 0, none⟩)) rfl
    go_simp
    with_reducible rfl
  rotate_left
  · simp only [Act.put, List.setIfInBounds_toArray, List.set_cons_zero, List.set_cons_succ, i64_w, i32_w]
    rfl
  refine last_ (i := 6) (N := some 10) #[true, true, true, true, true, true, true, false] rfl rfl (by kernel_rfl) (by decide) (fun K hK => ?_)
  refine goes_ Tryz.func40 (by kernel_rfl) rfl #[.pointer (some ⟨k.d, 0, none⟩), .string (bs n), .string (bs b)] (by rfl) rfl rfl (by simp only [List.map_toArray, List.map_cons, List.map_nil]; rfl) ?_
  refine (rename_full _ H.out.drew.disk n b).mono ?_
  rintro e w5 ⟨rfl, hB5, L', hL', hD5, hT5⟩
  refine ⟨_, rfl, ?_⟩
  refine hK.out _ _ ?_
  clear hK K
  refine norm_ (a' := ?_) ?_ ?_
  rotate_left
  · show Act.put _ (some 10) _ = _
    simp only [Act.put, List.setIfInBounds_toArray, List.set_cons_zero, List.set_cons_succ, i64_w, i32_w]
    rfl
  refine pure_ (i := 7) (N := some 3) (v := ?_) (a' := ?_) #[true, true, true, true, true, true, true, true] rfl rfl (by kernel_rfl) (fun _ _ _ h => h) (Or.inl ⟨by rfl, ?_⟩) ?_ ?_
  rotate_left
  · intro w'
    go_simp
    with_reducible rfl
  rotate_left
  · simp only [Act.put, List.setIfInBounds_toArray, List.set_cons_zero, List.set_cons_succ, i64_w, i32_w]
    rfl
  refine done_ (by kernel_rfl) ?_
  go_wp2_with fail
  go_ret
  exact ⟨rfl, ((Below.refl _ w).drew).trans hB5, L', hL', hD5, ((Turn.of_below (Below.refl _ w).drew k.mb L).trans hT5)⟩
set_option maxHeartbeats 1000000 in
theorem premove_calls (w : World) {k : PW} {L : Lf} {s : PS} (h : IsP w k L (pcOf s)) (hl : fs L = s.l) (hwr : s.wr < 1000000000) (hfu : -1 ≤ k.fuse ∧ k.fuse ≤ 1000000000) (n : Tx) :
    Calls Tryz.prog 20 #[.pointer (some ⟨k.pb, 0, none⟩), .string (bs n)] w (DidP w k L (pw k.fuse k.keep (fun l => remove l n) s)) := by
  obtain ⟨W, hW⟩ : ∃ W, (w.alloc (.cells #[.pointer (some ⟨k.pb, 0, none⟩)] 31)).alloc (.cells #[.string (bs n)] 9) = W := ⟨_, rfl⟩
  have hB1 : Below w.heap.size w W := by rw [← hW]; exact ((Below.refl _ w).alloc (Nat.le_refl _) _).alloc (by simp) _
  have hbx : Box2 (.pointer (some ⟨k.pb, 0, none⟩)) (.string (bs n)) w.heap.size W := by
    rw [← hW]
    exact box2_new w _ 31 _
  have hpl := heap_lt h.top
  have HWr := Lib.hid (write_calls W (h.below hB1) hl hwr hfu 41 #[.pointer (some ⟨w.heap.size, 0, none⟩), .pointer (some ⟨w.heap.size + 1, 0, none⟩)] (enters 41 _ Tryz.func41 (by kernel_rfl) rfl) (fun l => remove l n) (Box2 (.pointer (some ⟨k.pb, 0, none⟩)) (.string (bs n)) w.heap.size) hbx
    (fun _ h => h) (fun W hh v => ⟨box_set hh.1 (by omega), box_set hh.2 (by omega)⟩) (fun W L1 c1 hP hh => remove1_calls W hP _ _ n hh.1 hh.2))
  have HB1 := Lib.hid hB1
  have hsz := h.size
  have hx0 := hbx.1
  clear h hB1 hbx
  go_enter Tryz.func20, Tryz.ntmps20
  go_wp2_with fail
  refine HWr.out.mono ?_
  rintro e w5 ⟨rfl, hB5, L', hL', hP5, hT5⟩
  have HP5 := Lib.hid hP5
  have HB5 := Lib.hid ((HB1.out.mono hsz).trans hB5)
  have HT5 := Lib.hid ((TurnP.of_below HB1.out k L).trans hT5)
  clear hB5 hP5 hT5
  go_wp2_with fail
  go_ret
  exact ⟨rfl, HB5.out, L', hL', HP5.out, HT5.out⟩
set_option maxHeartbeats 1000000 in
theorem prename_calls (w : World) {k : PW} {L : Lf} {s : PS} (h : IsP w k L (pcOf s)) (hl : fs L = s.l) (hwr : s.wr < 1000000000) (hfu : -1 ≤ k.fuse ∧ k.fuse ≤ 1000000000) (n b : Tx) :
    Calls Tryz.prog 19 #[.pointer (some ⟨k.pb, 0, none⟩), .string (bs n), .string (bs b)] w (DidP w k L (pw k.fuse k.keep (fun l => rename l n b) s)) := by
  obtain ⟨W, hW⟩ : ∃ W, ((w.alloc (.cells #[.pointer (some ⟨k.pb, 0, none⟩)] 31)).alloc (.cells #[.string (bs n)] 9)).alloc (.cells #[.string (bs b)] 9) = W := ⟨_, rfl⟩
  have hB1 : Below w.heap.size w W := by rw [← hW]; exact (((Below.refl _ w).alloc (Nat.le_refl _) _).alloc (by simp) _).alloc (by simp; omega) _
  have hbx : Box3 (.pointer (some ⟨k.pb, 0, none⟩)) (.string (bs n)) (.string (bs b)) w.heap.size W := by
    rw [← hW]
    exact box3_new w _ 31 _ _
  have hpl := heap_lt h.top
  have HWr := Lib.hid (write_calls W (h.below hB1) hl hwr hfu 39 #[.pointer (some ⟨w.heap.size, 0, none⟩), .pointer (some ⟨w.heap.size + 1, 0, none⟩), .pointer (some ⟨w.heap.size + 2, 0, none⟩)] (enters 39 _ Tryz.func39 (by kernel_rfl) rfl) (fun l => rename l n b) (Box3 (.pointer (some ⟨k.pb, 0, none⟩)) (.string (bs n)) (.string (bs b)) w.heap.size) hbx
    (fun _ h => h) (fun W hh v => ⟨box_set hh.1 (by omega), box_set hh.2.1 (by omega), box_set hh.2.2 (by omega)⟩) (fun W L1 c1 hP hh => rename1_calls W hP _ _ _ n b hh.1 hh.2.1 hh.2.2))
  have HB1 := Lib.hid hB1
  have hsz := h.size
  have hx0 := hbx.1
  clear h hB1 hbx
  go_enter Tryz.func19, Tryz.ntmps19
  go_wp2_with fail
  refine HWr.out.mono ?_
  rintro e w5 ⟨rfl, hB5, L', hL', hP5, hT5⟩
  have HP5 := Lib.hid hP5
  have HB5 := Lib.hid ((HB1.out.mono hsz).trans hB5)
  have HT5 := Lib.hid ((TurnP.of_below HB1.out k L).trans hT5)
  clear hB5 hP5 hT5
  go_wp2_with fail
  go_ret
  exact ⟨rfl, HB5.out, L', hL', HP5.out, HT5.out⟩
end Go.Proofs.YtbffgpfkgmhmhaaGreat.Dw
/- PowerCuts' run: acts over a power (function 9). Printed by gcgen.py. -/
set_option linter.unusedVariables false
set_option linter.unusedSimpArgs false
namespace Go.Proofs.YtbffgpfkgmhmhaaGreat.Dw
open Go.RowKit Go.Maps Go.Proofs.YtbffgpfkgmhmhaaGreatW.PrintWords Go.Proofs.YtbffgpfkgmhmhaaGreatW.PrintLast Go.Proofs.YtbffgpfkgmhmhaaGreatW.PrintMore Go.Proofs.Dk
set_option maxRecDepth 100000
/-- The acts of a slice, in every world that keeps what lies below base. -/
def Acts (w : World) (base : Nat) (A : Option Addr) (l : List Wr) : Prop := ∀ W, Below base w W → ∀ (j : Nat) (h : j < l.length), ∃ ad, A = some ad ∧
  W.cell? (ad.add (j * 3)) = some (.int .u8 (l[j].k : Int)) ∧ W.cell? ⟨(ad.add (j * 3)).block, (ad.add (j * 3)).off + 1, none⟩ = some (.string (bs l[j].n)) ∧ W.cell? ⟨(ad.add (j * 3)).block, (ad.add (j * 3)).off + 2, none⟩ = some (.string (bs l[j].o))
theorem Acts.below {w w1 : World} {base : Nat} {A : Option Addr} {l : List Wr} (h : Acts w base A l) (hB : Below base w w1) : Acts w1 base A l := fun W hW j hj => h W (hB.trans hW) j hj
theorem Acts.mono {w : World} {base base' : Nat} {A : Option Addr} {l : List Wr} (h : Acts w base A l) (hb : base ≤ base') : Acts w base' A l := fun W hW j hj => h W (hW.mono hb) j hj
theorem Acts.take {w : World} {base : Nat} {A : Option Addr} {l : List Wr} (h : Acts w base A l) (n : Nat) : Acts w base A (l.take n) := fun W hW j hj => by
  have hj2 : j < l.length := by rw [List.length_take] at hj; omega
  have := h W hW j hj2
  rw [List.getElem_take]
  exact this
set_option maxHeartbeats 4000000 in
theorem run_calls (w : World) {k : PW} {L : Lf} {s : PS} (h : IsP w k L (pcOf s)) (hl : fs L = s.l) (hfu : -1 ≤ k.fuse ∧ k.fuse ≤ 1000000000) (A : Option Addr) (cap : Nat) (l : List Wr) (hll : l.length ≤ 1000) (hs0 : s.wr ≤ 1000)
    (hok : ∀ a ∈ l, a.o.length ≤ 100000 ∧ a.k < 256) (hA : Acts w k.base A l) :
    Calls Tryz.prog 9 #[.pointer (some ⟨k.pb, 0, none⟩), .slice A l.length cap] w fun e w' => (∃ v, e = .returned v) ∧ Below k.base w w' ∧
      ∃ L', fs L' = (runS k.q k.fuse k.keep l s).l ∧ IsP w' k L' (pcOf (runS k.q k.fuse k.keep l s)) ∧ TurnP w w' k L L' := by
  have HP := Lib.hid h
  have HL := Lib.hid hl
  have HOk := Lib.hid hok
  have HA := Lib.hid hA
  have HB0 := Lib.hid (Below.refl k.base w)
  have HT0 := Lib.hid (TurnP.of_below (Below.refl w.heap.size w) k L)
  clear h hl hok hA
  go_enter Tryz.func9, Tryz.ntmps9
  go_wp2_with fail
  go_loopw [4] (fun t4 wr => ∃ (i : Nat) (L1 : Lf), i ≤ l.length ∧ t4 = .int .i64 i ∧ fs L1 = (runS k.q k.fuse k.keep (l.take i) s).l ∧ IsP wr k L1 (pcOf (runS k.q k.fuse k.keep (l.take i) s)) ∧ Below k.base w wr ∧ TurnP w wr k L L1) (fun t4 _ => l.length - (intOf t4).toNat)
  case atStart => exact ⟨0, L, Nat.zero_le _, rfl, HL.out, HP.out, HB0.out, HT0.out⟩
  case round =>
    obtain ⟨i, L1, hi, rfl, hL1, hP1, hB1, hT1⟩ := hrel
    clear HP HL HB0 HT0
    have HL := Lib.hid hL1
    have HP := Lib.hid hP1
    have HB := Lib.hid hB1
    have HT := Lib.hid hT1
    clear hL1 hP1 hB1 hT1
    by_cases hlt : i < l.length
    · have hltb : decide ((i : Int) < (l.length : Int)) = true := decide_eq_true (by omega)
      have hk0 : 0 ≤ (i : Int) := by omega
      obtain ⟨⟨ab, af, ap⟩, rfl, c0, c1, c2⟩ := HA.out wr HB.out i hlt
      obtain ⟨hbo, hk8⟩ := HOk.out _ (List.getElem_mem hlt)
      have hwr1 : (runS k.q k.fuse k.keep (l.take i) s).wr < 1000000000 := by
        have := runS_wr k.q k.fuse k.keep (l.take i) s
        rw [List.length_take] at this
        omega
      have HN := Lib.hid (show runS k.q k.fuse k.keep (l.take (i + 1)) s = stepW k.q k.fuse k.keep (runS k.q k.fuse k.keep (l.take i) s) l[i] by rw [List.take_succ_eq_append_getElem hlt, runS_snoc])
      generalize l[i] = a at *
      generalize runS k.q k.fuse k.keep (l.take i) s = S at *
      have h8 : a.k % 8 < 8 := Nat.mod_lt _ (by decide)
      have HLs := HL
      generalize hm : a.k % 8 = m at *
      have hmi : Int.tmod (a.k : Int) 8 = (m : Int) := by rw [← hm]; exact (Int.ofNat_tmod a.k 8).symm
      have HB2 := Lib.hid ((Below.refl wr.heap.size wr).alloc (Nat.le_refl _) (.cells #[.int .u8 (a.k : Int), .string (bs a.n), .string (bs a.o)] 28))
      have HP1 := Lib.hid (HP.out.below HB2.out)
      have HBa := Lib.hid (HB.out.trans (HB2.out.mono HP.out.size))
      have HTa := Lib.hid (HT.out.trans (TurnP.of_below HB2.out k L1))
      clear HB HT HP HB2
      rcases (show m = 0 ∨ m = 1 ∨ m = 2 ∨ m = 3 ∨ m = 4 ∨ 5 ≤ m by omega) with rfl | rfl | rfl | rfl | rfl | h5
      · have HS := Lib.hid (show runS k.q k.fuse k.keep (l.take (i + 1)) s = (pw k.fuse k.keep (fun l => create l a.n) S).1 by
          rw [HN.out]
          unfold stepW
          rw [if_pos (by omega)]
          congr 2
          funext l
          unfold opF
          rw [hm]
          rfl)
        clear hm h8 HN
        go_wp2_with fail
        refine (pcreate_calls _ HP1.out HLs.out hwr1 hfu a.n).mono ?_
        rintro e w2 ⟨rfl, hB2, L2, hL2, hP2, hT2⟩
        rw [← HS.out] at hL2 hP2
        have HL2 := Lib.hid hL2
        have HP2 := Lib.hid hP2
        have HB2 := Lib.hid (HBa.out.trans hB2)
        have HT2 := Lib.hid (HTa.out.trans hT2)
        clear hL2 hP2 hB2 hT2 HBa HTa HP1 HL HLs HS c0 c1 c2
        go_wp2_with fail
        go_roundw
        case rel => exact ⟨i + 1, L2, by omega, by go_num, HL2.out, HP2.out, HB2.out, HT2.out⟩
        case measure => simp [intOf]; omega
      · have HS := Lib.hid (show runS k.q k.fuse k.keep (l.take (i + 1)) s = (pw k.fuse k.keep (fun l => append k.q l a.n a.o) S).1 by
          rw [HN.out]
          unfold stepW
          rw [if_pos (by omega)]
          congr 2
          funext l
          unfold opF
          rw [hm]
          rfl)
        clear hm h8 HN
        go_wp2_with fail
        refine (pappend_calls _ HP1.out HLs.out hwr1 hfu a.n a.o hbo).mono ?_
        rintro e w2 ⟨rfl, hB2, L2, hL2, hP2, hT2⟩
        rw [← HS.out] at hL2 hP2
        have HL2 := Lib.hid hL2
        have HP2 := Lib.hid hP2
        have HB2 := Lib.hid (HBa.out.trans hB2)
        have HT2 := Lib.hid (HTa.out.trans hT2)
        clear hL2 hP2 hB2 hT2 HBa HTa HP1 HL HLs HS c0 c1 c2
        go_wp2_with fail
        go_roundw
        case rel => exact ⟨i + 1, L2, by omega, by go_num, HL2.out, HP2.out, HB2.out, HT2.out⟩
        case measure => simp [intOf]; omega
      · have HS := Lib.hid (show runS k.q k.fuse k.keep (l.take (i + 1)) s = (pw k.fuse k.keep (fun l => sync l a.n) S).1 by
          rw [HN.out]
          unfold stepW
          rw [if_pos (by omega)]
          congr 2
          funext l
          unfold opF
          rw [hm]
          rfl)
        clear hm h8 HN
        go_wp2_with fail
        refine (psync_calls _ HP1.out HLs.out hwr1 hfu a.n).mono ?_
        rintro e w2 ⟨rfl, hB2, L2, hL2, hP2, hT2⟩
        rw [← HS.out] at hL2 hP2
        have HL2 := Lib.hid hL2
        have HP2 := Lib.hid hP2
        have HB2 := Lib.hid (HBa.out.trans hB2)
        have HT2 := Lib.hid (HTa.out.trans hT2)
        clear hL2 hP2 hB2 hT2 HBa HTa HP1 HL HLs HS c0 c1 c2
        go_wp2_with fail
        go_roundw
        case rel => exact ⟨i + 1, L2, by omega, by go_num, HL2.out, HP2.out, HB2.out, HT2.out⟩
        case measure => simp [intOf]; omega
      · have HS := Lib.hid (show runS k.q k.fuse k.keep (l.take (i + 1)) s = (pw k.fuse k.keep (fun l => rename l a.n a.o) S).1 by
          rw [HN.out]
          unfold stepW
          rw [if_pos (by omega)]
          congr 2
          funext l
          unfold opF
          rw [hm]
          rfl)
        clear hm h8 HN
        go_wp2_with fail
        refine (prename_calls _ HP1.out HLs.out hwr1 hfu a.n a.o).mono ?_
        rintro e w2 ⟨rfl, hB2, L2, hL2, hP2, hT2⟩
        rw [← HS.out] at hL2 hP2
        have HL2 := Lib.hid hL2
        have HP2 := Lib.hid hP2
        have HB2 := Lib.hid (HBa.out.trans hB2)
        have HT2 := Lib.hid (HTa.out.trans hT2)
        clear hL2 hP2 hB2 hT2 HBa HTa HP1 HL HLs HS c0 c1 c2
        go_wp2_with fail
        go_roundw
        case rel => exact ⟨i + 1, L2, by omega, by go_num, HL2.out, HP2.out, HB2.out, HT2.out⟩
        case measure => simp [intOf]; omega
      · have HS := Lib.hid (show runS k.q k.fuse k.keep (l.take (i + 1)) s = (pw k.fuse k.keep (fun l => remove l a.n) S).1 by
          rw [HN.out]
          unfold stepW
          rw [if_pos (by omega)]
          congr 2
          funext l
          unfold opF
          rw [hm]
          rfl)
        clear hm h8 HN
        go_wp2_with fail
        refine (premove_calls _ HP1.out HLs.out hwr1 hfu a.n).mono ?_
        rintro e w2 ⟨rfl, hB2, L2, hL2, hP2, hT2⟩
        rw [← HS.out] at hL2 hP2
        have HL2 := Lib.hid hL2
        have HP2 := Lib.hid hP2
        have HB2 := Lib.hid (HBa.out.trans hB2)
        have HT2 := Lib.hid (HTa.out.trans hT2)
        clear hL2 hP2 hB2 hT2 HBa HTa HP1 HL HLs HS c0 c1 c2
        go_wp2_with fail
        go_roundw
        case rel => exact ⟨i + 1, L2, by omega, by go_num, HL2.out, HP2.out, HB2.out, HT2.out⟩
        case measure => simp [intOf]; omega
      · have HS := Lib.hid (show runS k.q k.fuse k.keep (l.take (i + 1)) s = S by
          rw [HN.out]
          unfold stepW
          rw [if_neg (by omega)])
        have e0 : ((m : Int) == 0) = false := by simp; omega
        have e1 : ((m : Int) == 1) = false := by simp; omega
        have e2 : ((m : Int) == 2) = false := by simp; omega
        have e3 : ((m : Int) == 3) = false := by simp; omega
        have e4 : ((m : Int) == 4) = false := by simp; omega
        clear hm h8 HN
        go_wp2_with fail
        go_roundw
        case rel => exact ⟨i + 1, L1, by omega, by go_num, by rw [HS.out]; exact HL.out, by rw [HS.out]; exact HP1.out, HBa.out, HTa.out⟩
        case measure => simp [intOf]; omega
    · have hltb : decide ((i : Int) < (l.length : Int)) = false := decide_eq_false (by omega)
      obtain rfl : i = l.length := by omega
      rw [List.take_length] at HL HP
      go_wp2_with fail
      go_end0
      exact ⟨⟨_, rfl⟩, HB.out, L1, HL.out, HP.out, HT.out⟩
end Go.Proofs.YtbffgpfkgmhmhaaGreat.Dw
/- PowerCuts: texts, same (function 12), few; two powers that lie apart. Printed by gdgen.py. -/
set_option linter.unusedVariables false
set_option linter.unusedSimpArgs false
namespace Go.Proofs.YtbffgpfkgmhmhaaGreat.Dw
open Go.RowKit Go.Maps Go.Proofs.YtbffgpfkgmhmhaaGreatW.PrintWords Go.Proofs.YtbffgpfkgmhmhaaGreatW.PrintLast Go.Proofs.YtbffgpfkgmhmhaaGreatW.PrintMore Go.Proofs.YtbffgpfkgmhmhaaGreat.PPowerCuts Go.Proofs.Dk
set_option maxRecDepth 100000
/-! ### few -/
theorem few_run (l : List S28) : ∀ (n : Nat) (x3 : Int) (k : Nat), 0 ≤ x3 → (n : Int) = 90 - x3 → 2 * n + 2 ≤ k → ∃ r, hindcastlaw13_few.l0 k l x3 = some r ∧ (r = true → l.length ≤ 80 ∧ ∀ j : Nat, x3 ≤ j → j < l.length → ((rd_T28 l j).f2).size ≤ 2000)
  | n, x3, k, h0, hn, hk => by
    obtain ⟨k1, rfl⟩ : ∃ k1, k = k1 + 2 := ⟨k - 2, by omega⟩
    rw [hindcastlaw13_few.l0]
    by_cases hlt : x3 < (l.length : Int)
    · rw [if_pos hlt, hindcastlaw13_few.j1]
      by_cases h2 : x3 < 90
      · rw [decide_eq_true h2, if_pos rfl, if_pos h0, if_pos hlt]
        split
        · exact ⟨false, rfl, fun h => by cases h⟩
        · rename_i hs3
          split
          · exact ⟨false, rfl, fun h => by cases h⟩
          · rename_i hs4
            obtain ⟨n', rfl⟩ : ∃ n', n = n' + 1 := ⟨n - 1, by omega⟩
            have hw : wrap64 (x3 + 1) = x3 + 1 := by unfold wrap64; omega
            rw [hw]
            obtain ⟨r, e1, e2⟩ := few_run l n' (x3 + 1) k1 (by omega) (by omega) (by omega)
            refine ⟨r, e1, fun h => ⟨(e2 h).1, fun j hj hjl => ?_⟩⟩
            by_cases hx : x3 = (j : Int)
            · rw [← hx]; omega
            · exact (e2 h).2 j (by omega) hjl
      · rw [decide_eq_false h2, if_neg Bool.false_ne_true]
        exact ⟨_, rfl, fun h => by have := of_decide_eq_true h; exact ⟨by omega, fun j hj hjl => by omega⟩⟩
    · rw [if_neg hlt, hindcastlaw13_few.j1, if_neg Bool.false_ne_true]
      exact ⟨_, rfl, fun h => by have := of_decide_eq_true h; exact ⟨by omega, fun j hj hjl => by omega⟩⟩
theorem few_calls (A0 : Option Addr) (c0 : Nat) (l : List S28) (w : World) (hr0 : Kd.C k28 w A0 l.length l) (hc0 : l.length ≤ c0) :
    ∃ r, (r = true → l.length ≤ 80 ∧ ∀ j : Nat, j < l.length → ((rd_T28 l j).f2).size ≤ 2000) ∧ Calls Tryz.prog 4 #[.slice A0 l.length c0] w fun e w' => e = .returned (.bool r) ∧ Below w.heap.size w w' := by
  obtain ⟨r, h1, h2⟩ := few_run l 90 0 182 (by omega) (by omega) (by omega)
  refine ⟨r, fun h => ⟨(h2 h).1, fun j hj => (h2 h).2 j (by omega) hj⟩, (hindcastlaw13_few.calls 182 A0 c0 l r w hr0 hc0 h1).mono ?_⟩
  rintro e w' ⟨rfl, hd⟩
  exact ⟨rfl, hd.below⟩
/-! ### texts -/
theorem texts_run (l : List ByteArray) (hl : l.length ≤ 1000) : ∀ (n x : Nat), x + n = l.length → hindcastlaw13_texts.l0 (n + 1) l l x = some true
  | 0, x, h => by
    rw [hindcastlaw13_texts.l0, if_neg (by omega)]
  | n + 1, x, h => by
    rw [hindcastlaw13_texts.l0, if_pos (by omega), if_pos (by omega), if_pos (by omega), if_pos rfl]
    rw [show wrap64 ((x : Int) + 1) = ((x + 1 : Nat) : Int) by unfold wrap64; omega]
    exact texts_run l hl n (x + 1) (by omega)
theorem row_slice9 {w : World} {B : Nat} {v : Value} {n : Nat} {xs : List Value} (h : w.ownsRow B 9 1 v n xs) : ∃ A cap, v = .slice A n cap := by
  rcases h.2 with ⟨rfl, rfl⟩ | ⟨g, cap, cur, rfl, _⟩
  · exact ⟨_, _, rfl⟩
  · exact ⟨_, _, rfl⟩
theorem names_row {w : World} {B : Nat} {A : Option Addr} {cap : Nat} {l : List Tx} (hl : l.length ≤ 1000) (h : w.ownsRow B 9 1 (.slice A l.length cap) l.length (l.map encS)) : Names w A l ∧ Kd.C Kd.string w A l.length (l.map bs) ∧ l.length ≤ cap := by
  have hN : Names w A l := by
    intro j hj
    rcases h.2 with ⟨_, h0⟩ | ⟨g, cap2, cur, he, hb, hg, hn, _, _, ht⟩
    · omega
    · cases he
      refine ⟨⟨g, 0, none⟩, rfl, ?_⟩
      exact h.cells rfl j _ (by rw [List.getElem?_map, List.getElem?_eq_getElem hj]; rfl)
  refine ⟨hN, ⟨by simp, by omega, fun h0 => ?_⟩, ?_⟩
  · obtain ⟨ad, hA, _⟩ := hN 0 h0
    refine ⟨ad, hA, fun j p hp => ?_⟩
    rw [List.getElem?_map] at hp
    obtain ⟨x, hx, rfl⟩ := Option.map_eq_some_iff.1 hp
    obtain ⟨hj, rfl⟩ := List.getElem?_eq_some_iff.1 hx
    obtain ⟨ad2, hA2, hc⟩ := hN j hj
    rw [hA] at hA2
    cases hA2
    refine ⟨[.string (bs l[j])], rfl, rfl, fun i u hi => ?_⟩
    rcases i with _ | i
    · cases hi
      show w.cell? (ad.add (j * 1 + 0)) = _
      rw [Nat.mul_one, Nat.add_zero]
      exact hc
    · cases hi
  · rcases h.2 with ⟨_, h0⟩ | ⟨g, cap2, cur, he, hb, hg, hn, _⟩
    · omega
    · cases he
      simpa using hn
theorem texts_same (w : World) (A0 : Option Addr) (c0 : Nat) (A1 : Option Addr) (c1 : Nat) (l : List Tx) (hl : l.length ≤ 1000) (h0 : Kd.C Kd.string w A0 l.length (l.map bs)) (hc0 : l.length ≤ c0) (h1 : Kd.C Kd.string w A1 l.length (l.map bs)) (hc1 : l.length ≤ c1) :
    Calls Tryz.prog 24 #[.slice A0 l.length c0, .slice A1 l.length c1] w fun e w' => e = .returned (.bool true) ∧ Below w.heap.size w w' := by
  have hm : (l.map bs).length = l.length := List.length_map _
  have h := hindcastlaw13_texts.calls (l.length + 1) A0 c0 (l.map bs) A1 c1 (l.map bs) true w (by rw [hm]; exact h0) (by rw [hm]; exact hc0) (by rw [hm]; exact h1) (by rw [hm]; exact hc1) (by
    unfold hindcastlaw13_texts.f
    rw [if_pos rfl]
    exact texts_run (l.map bs) (by rw [hm]; exact hl) l.length 0 (by rw [hm]; omega))
  rw [hm] at h
  refine h.mono ?_
  rintro e w' ⟨rfl, hd⟩
  exact ⟨rfl, hd.below⟩
/-! ### same -/
set_option maxHeartbeats 4000000 in
theorem same_calls (w : World) {b1 d1 m1 q1 : Nat} {L1 : Lf} (h1 : IsD w b1 d1 m1 q1 L1) {b2 d2 m2 q2 : Nat} {L2 : Lf} (h2 : IsD w b2 d2 m2 q2 L2) (he : fs L1 = fs L2) :
    Calls Tryz.prog 12 #[.pointer (some ⟨d1, 0, none⟩), .pointer (some ⟨d2, 0, none⟩)] w fun e w' => e = .returned (.bool true) ∧ Below w.heap.size w w' := by
  have H1 := Lib.hid h1
  have H2 := Lib.hid h2
  have HE := Lib.hid he
  have hfew : ((fs L1).map (·.1)).length ≤ 1000 := by have := h1.ok.few; rw [List.length_map]; exact Nat.le_trans this (by decide)
  clear h1 h2 he
  go_enter Tryz.func12, Tryz.ntmps12
  go_wp2_with fail
  refine (list_calls w H1.out).mono ?_
  rintro e w1 ⟨v1, rfl, hO1, hB1⟩
  obtain ⟨A1, c1, rfl⟩ := row_slice9 hO1
  have HB1 := Lib.hid hB1
  have HO1 := Lib.hid hO1
  have H11 := Lib.hid (H1.out.below hB1)
  have H21 := Lib.hid (H2.out.below hB1)
  clear hB1 hO1 H1 H2
  go_wp2_with fail
  refine (list_calls w1 H21.out).mono ?_
  rintro e w2 ⟨v2, rfl, hO2, hB2⟩
  obtain ⟨A2, c2, rfl⟩ := row_slice9 hO2
  rw [← HE.out] at hO2
  rw [← HE.out]
  have hle : (fs L1).map (fun p => encS p.1) = ((fs L1).map (·.1)).map encS := by rw [List.map_map]; rfl
  have hl0 : (fs L1).length = ((fs L1).map (·.1)).length := (List.length_map _).symm
  rw [hle, hl0] at hO2
  have hO1 := HO1.out
  rw [hle, hl0] at hO1
  rw [hl0]
  generalize hnl : (fs L1).map (·.1) = nl at *
  obtain ⟨hN2, hC2, hc2⟩ := names_row hfew hO2
  obtain ⟨hN1, hC1, hc1⟩ := names_row hfew hO1
  have HN := Lib.hid (hN1.below hB2)
  have HC1 := Lib.hid (Kd.C_below hC1 hB2)
  have HC2 := Lib.hid hC2
  have H12 := Lib.hid (H11.out.below hB2)
  have H22 := Lib.hid (H21.out.below hB2)
  have HB2 := Lib.hid (HB1.out.trans (hB2.mono HB1.out.size))
  clear hB2 hO1 hO2 hN1 hN2 hC1 hC2 HO1 H11 H21 HB1 hle hl0 hnl
  go_wp2_with fail
  refine (texts_same w2 A1 c1 A2 c2 nl hfew HC1.out hc1 HC2.out hc2).mono ?_
  rintro e w3 ⟨rfl, hB3⟩
  have HB3 := Lib.hid hB3
  clear hB3 HC1 HC2
  go_wp2_with fail
  go_loopw [6] (fun t6 wr => ∃ i : Nat, i ≤ nl.length ∧ t6 = .int .i64 i ∧ Below w2.heap.size w2 wr) (fun t6 _ => nl.length - (intOf t6).toNat)
  case atStart => exact ⟨0, Nat.zero_le _, rfl, HB3.out⟩
  case round =>
    obtain ⟨i, hi, rfl, hBr⟩ := hrel
    have HBr := Lib.hid hBr
    clear hBr HB3
    by_cases hlt : i < nl.length
    · have hltb : decide ((i : Int) < (nl.length : Int)) = true := decide_eq_true (by omega)
      have hk0 : 0 ≤ (i : Int) := by omega
      obtain ⟨ad, rfl, hc⟩ := HN.out.below HBr.out i hlt
      have hca : wr.cell? (ad.add i) = some (.string (bs nl[i])) := hc
      clear hc
      generalize nl[i] = n at *
      have HDa := Lib.hid (H12.out.below HBr.out)
      go_wp2_with fail
      refine (read_calls wr HDa.out n).mono ?_
      rintro e wa ⟨rfl, hBx⟩
      have hcb := cell_below hca hBx
      have HBa := Lib.hid (HBr.out.trans (hBx.mono HBr.out.size))
      clear hBx HDa hca HBr
      have HDb := Lib.hid (H22.out.below HBa.out)
      go_wp2_with fail
      refine (read_calls wa HDb.out n).mono ?_
      rintro e wb ⟨rfl, hBx⟩
      have hcd0 := cell_below hcb hBx
      have HBr := Lib.hid (HBa.out.trans (hBx.mono HBa.out.size))
      clear hBx HDb hcb HBa
      rw [← HE.out]
      generalize (read (fs L1) n).1 = X
      have HDa := Lib.hid (H12.out.below HBr.out)
      have HDb := Lib.hid (H22.out.below HBr.out)
      have hcd : wb.drew.cell? (ad.add i) = some (.string (bs n)) := hcd0
      clear hcd0
      go_wp2_with fail
      refine start_ (n := 18) (S := (fun w' => w'.cell? (ad.add i) = some (.string (bs n)) ∧ IsD w' b1 d1 m1 q1 L1 ∧ IsD w' b2 d2 m2 q2 L2 ∧ Below w2.heap.size w2 w')) (ds := []) #[false, false, false, false, false, false, false, false, false, false, false, false, false, false, false, false, false, false] (by kernel_rfl) rfl rfl ⟨hcd, HDa.out.below ((Below.refl _ _).drew), HDb.out.below ((Below.refl _ _).drew), HBr.out.drew⟩ (fun hHeld => ?_)
      refine pure_ (i := 0) (N := some 42) (v := ?_) (a' := ?_) #[true, false, false, false, false, false, false, false, false, false, false, false, false, false, false, false, false, false] rfl rfl (by kernel_rfl) (fun _ _ _ h => h) (Or.inl ⟨by rfl, ?_⟩) ?_ ?_
      rotate_left
      · intro w'
        go_simp
        with_reducible rfl
      rotate_left
      · simp only [Act.put, List.setIfInBounds_toArray, List.set_cons_zero, List.set_cons_succ, i64_w, i32_w]
        rfl
      refine pure_ (i := 1) (N := some 43) (v := ?_) (a' := ?_) #[true, true, false, false, false, false, false, false, false, false, false, false, false, false, false, false, false, false] rfl rfl (by kernel_rfl) (fun _ _ _ h => h) (Or.inl ⟨by rfl, ?_⟩) ?_ ?_
      rotate_left
      · intro w'
        go_simp
        with_reducible rfl
      rotate_left
      · simp only [Act.put, List.setIfInBounds_toArray, List.set_cons_zero, List.set_cons_succ, i64_w, i32_w]
        rfl
      refine pure_ (i := 2) (N := some 44) (v := ?_) (a' := ?_) #[true, true, true, false, false, false, false, false, false, false, false, false, false, false, false, false, false, false] rfl rfl (by kernel_rfl) (fun _ _ _ h => h) (Or.inl ⟨by rfl, ?_⟩) ?_ ?_
      rotate_left
      · intro w'
        go_simp
        with_reducible rfl
      rotate_left
      · simp only [Act.put, List.setIfInBounds_toArray, List.set_cons_zero, List.set_cons_succ, i64_w, i32_w]
        rfl
      refine pure_ (i := 3) (N := some 45) (v := ?_) (a' := ?_) #[true, true, true, true, false, false, false, false, false, false, false, false, false, false, false, false, false, false] rfl rfl (by kernel_rfl) (fun _ _ _ h => h) (Or.inl ⟨by rfl, ?_⟩) ?_ ?_
      rotate_left
      · intro w'
        go_simp
        with_reducible rfl
      rotate_left
      · simp only [Act.put, List.setIfInBounds_toArray, List.set_cons_zero, List.set_cons_succ, i64_w, i32_w]
        rfl
      refine pure_ (i := 4) (N := some 46) (v := ?_) (a' := ?_) #[true, true, true, true, true, false, false, false, false, false, false, false, false, false, false, false, false, false] rfl rfl (by kernel_rfl) (fun _ _ _ h => h) (Or.inl ⟨by rfl, ?_⟩) ?_ ?_
      rotate_left
      · intro w'
        go_simp
        with_reducible rfl
      rotate_left
      · simp only [Act.put, List.setIfInBounds_toArray, List.set_cons_zero, List.set_cons_succ, i64_w, i32_w]
        rfl
      refine pure_ (i := 5) (N := some 47) (v := ?_) (a' := ?_) #[true, true, true, true, true, true, false, false, false, false, false, false, false, false, false, false, false, false] rfl rfl (by kernel_rfl) (fun _ _ _ h => h) (Or.inl ⟨by rfl, ?_⟩) ?_ ?_
      rotate_left
      · intro w'
        go_simp
        with_reducible rfl
      rotate_left
      · simp only [Act.put, List.setIfInBounds_toArray, List.set_cons_zero, List.set_cons_succ, i64_w, i32_w]
        rfl
      refine pure_ (i := 6) (N := some 48) (v := ?_) (a' := ?_) #[true, true, true, true, true, true, true, false, false, false, false, false, false, false, false, false, false, false] rfl rfl (by kernel_rfl) (fun _ _ _ h => h) (Or.inl ⟨by rfl, ?_⟩) ?_ ?_
      rotate_left
      · intro w'
        go_simp
        with_reducible rfl
      rotate_left
      · simp only [Act.put, List.setIfInBounds_toArray, List.set_cons_zero, List.set_cons_succ, i64_w, i32_w]
        rfl
      refine pure_ (i := 7) (N := some 49) (v := ?_) (a' := ?_) #[true, true, true, true, true, true, true, true, false, false, false, false, false, false, false, false, false, false] rfl rfl (by kernel_rfl) (fun _ _ _ h => h) (Or.inl ⟨by rfl, ?_⟩) ?_ ?_
      rotate_left
      · intro w'
        go_simp
        with_reducible rfl
      rotate_left
      · simp only [Act.put, List.setIfInBounds_toArray, List.set_cons_zero, List.set_cons_succ, i64_w, i32_w]
        rfl
      refine take_ (i := 8) (N := some 50) (v := ?_) (a' := ?_) #[true, true, true, true, true, true, true, true, true, false, false, false, false, false, false, false, false, false] rfl rfl (by kernel_rfl) (fun _ _ _ h => h) (Or.inl ⟨by rfl, ?_⟩) hHeld ?_ ?_
      rotate_left
      · rintro w' ⟨hn1, hS2, hS3, hS4⟩
        go_simp
        with_reducible rfl
      rotate_left
      · simp only [Act.put, List.setIfInBounds_toArray, List.set_cons_zero, List.set_cons_succ, i64_w, i32_w]
        rfl
      refine pure_ (i := 10) (N := some 52) (v := ?_) (a' := ?_) #[true, true, true, true, true, true, true, true, true, false, true, false, false, false, false, false, false, false] rfl rfl (by kernel_rfl) (fun _ _ _ h => h) (Or.inl ⟨by rfl, ?_⟩) ?_ ?_
      rotate_left
      · intro w'
        go_simp
        with_reducible rfl
      rotate_left
      · simp only [Act.put, List.setIfInBounds_toArray, List.set_cons_zero, List.set_cons_succ, i64_w, i32_w]
        rfl
      refine pure_ (i := 11) (N := some 53) (v := ?_) (a' := ?_) #[true, true, true, true, true, true, true, true, true, false, true, true, false, false, false, false, false, false] rfl rfl (by kernel_rfl) (fun _ _ _ h => h) (Or.inl ⟨by rfl, ?_⟩) ?_ ?_
      rotate_left
      · intro w'
        go_simp
        with_reducible rfl
      rotate_left
      · simp only [Act.put, List.setIfInBounds_toArray, List.set_cons_zero, List.set_cons_succ, i64_w, i32_w]
        rfl
      refine pure_ (i := 12) (N := some 54) (v := ?_) (a' := ?_) #[true, true, true, true, true, true, true, true, true, false, true, true, true, false, false, false, false, false] rfl rfl (by kernel_rfl) (fun _ _ _ h => h) (Or.inl ⟨by rfl, ?_⟩) ?_ ?_
      rotate_left
      · intro w'
        go_simp
        with_reducible rfl
      rotate_left
      · simp only [Act.put, List.setIfInBounds_toArray, List.set_cons_zero, List.set_cons_succ, i64_w, i32_w]
        rfl
      refine pure_ (i := 13) (N := some 55) (v := ?_) (a' := ?_) #[true, true, true, true, true, true, true, true, true, false, true, true, true, true, false, false, false, false] rfl rfl (by kernel_rfl) (fun _ _ _ h => h) (Or.inl ⟨by rfl, ?_⟩) ?_ ?_
      rotate_left
      · intro w'
        go_simp
        with_reducible rfl
      rotate_left
      · simp only [Act.put, List.setIfInBounds_toArray, List.set_cons_zero, List.set_cons_succ, i64_w, i32_w]
        rfl
      refine take_ (i := 14) (N := some 56) (v := ?_) (a' := ?_) #[true, true, true, true, true, true, true, true, true, false, true, true, true, true, true, false, false, false] rfl rfl (by kernel_rfl) (fun _ _ _ h => h) (Or.inl ⟨by rfl, ?_⟩) hHeld ?_ ?_
      rotate_left
      · rintro w' ⟨hn1, hS2, hS3, hS4⟩
        go_simp
        with_reducible rfl
      rotate_left
      · simp only [Act.put, List.setIfInBounds_toArray, List.set_cons_zero, List.set_cons_succ, i64_w, i32_w]
        rfl
      refine one_ (i := 9) (N := some 51) #[true, true, true, true, true, true, true, true, true, true, true, true, true, true, true, false, false, false] rfl rfl (by kernel_rfl) (by decide) (fun K hK => ?_)
      refine goes_ Tryz.func26 (by kernel_rfl) rfl #[.pointer (some ⟨d1, 0, none⟩), .string (bs n)] (by rfl) rfl rfl (by simp only [List.map_toArray, List.map_cons, List.map_nil]; rfl) ?_
      refine (synced_calls _ (HDa.out.below (Below.refl _ _).drew) n).mono ?_
      rintro e w5 ⟨rfl, hBx⟩
      have hcy := cell_below hcd hBx
      have HDaw5 := Lib.hid ((HDa.out.below (Below.refl _ _).drew).below hBx)
      have HDbw5 := Lib.hid ((HDb.out.below (Below.refl _ _).drew).below hBx)
      have HBrw5 := Lib.hid (HBr.out.drew.trans (hBx.mono HBr.out.drew.size))
      clear hBx
      refine ⟨_, rfl, ?_⟩
      refine hK.out _ _ ⟨hcy, HDaw5.out, HDbw5.out, HBrw5.out⟩ (fun hHeld => ?_)
      clear hK K
      refine norm_ (a' := ?_) ?_ ?_
      rotate_left
      · show Act.put _ (some 51) _ = _
        simp only [Act.put, List.setIfInBounds_toArray, List.set_cons_zero, List.set_cons_succ, i64_w, i32_w]
        rfl
      refine one_ (i := 15) (N := some 57) #[true, true, true, true, true, true, true, true, true, true, true, true, true, true, true, true, false, false] rfl rfl (by kernel_rfl) (by decide) (fun K hK => ?_)
      refine goes_ Tryz.func26 (by kernel_rfl) rfl #[.pointer (some ⟨d2, 0, none⟩), .string (bs n)] (by rfl) rfl rfl (by simp only [List.map_toArray, List.map_cons, List.map_nil]; rfl) ?_
      refine (synced_calls _ HDbw5.out n).mono ?_
      rintro e w6 ⟨rfl, hBx⟩
      rw [← HE.out]
      have hcy := cell_below hcy hBx
      have HDaw6 := Lib.hid (HDaw5.out.below hBx)
      have HDbw6 := Lib.hid (HDbw5.out.below hBx)
      have HBrw6 := Lib.hid (HBrw5.out.trans (hBx.mono HBrw5.out.size))
      clear hBx
      refine ⟨_, rfl, ?_⟩
      refine hK.out _ _ ⟨hcy, HDaw6.out, HDbw6.out, HBrw6.out⟩ (fun hHeld => ?_)
      clear hK K
      refine norm_ (a' := ?_) ?_ ?_
      rotate_left
      · show Act.put _ (some 57) _ = _
        simp only [Act.put, List.setIfInBounds_toArray, List.set_cons_zero, List.set_cons_succ, i64_w, i32_w]
        rfl
      refine pure_ (i := 16) (N := some 58) (v := ?_) (a' := ?_) #[true, true, true, true, true, true, true, true, true, true, true, true, true, true, true, true, true, false] rfl rfl (by kernel_rfl) (fun _ _ _ h => h) (Or.inl ⟨by rfl, ?_⟩) ?_ ?_
      rotate_left
      · intro w'
        go_simp
        with_reducible rfl
      rotate_left
      · simp only [Act.put, List.setIfInBounds_toArray, List.set_cons_zero, List.set_cons_succ, i64_w, i32_w]
        rfl
      refine pure_ (i := 17) (N := some 59) (v := ?_) (a' := ?_) #[true, true, true, true, true, true, true, true, true, true, true, true, true, true, true, true, true, true] rfl rfl (by kernel_rfl) (fun _ _ _ h => h) (Or.inl ⟨by rfl, ?_⟩) ?_ ?_
      rotate_left
      · intro w'
        go_simp
        with_reducible rfl
      rotate_left
      · simp only [Act.put, List.setIfInBounds_toArray, List.set_cons_zero, List.set_cons_succ, i64_w, i32_w]
        rfl
      refine done_ (by kernel_rfl) ?_
      have HBz := Lib.hid HBrw6.out
      clear HDa HDb HBr hcd hcy HDaw5 HDbw5 HBrw5 HDaw6 HDbw6 HBrw6 hHeld
      go_wp2_with fail
      go_roundw
      case rel => exact ⟨i + 1, by omega, by go_num, HBz.out⟩
      case measure => simp [intOf]; omega
    · have hltb : decide ((i : Int) < (nl.length : Int)) = false := decide_eq_false (by omega)
      obtain rfl : i = nl.length := by omega
      go_wp2_with fail
      go_ret
      exact ⟨rfl, HB2.out.trans (HBr.out.mono HB2.out.size)⟩
end Go.Proofs.YtbffgpfkgmhmhaaGreat.Dw
/- PowerCuts: two powers that lie apart; New, with where its numbers lie; the acts that are writes. -/
set_option linter.unusedVariables false
set_option linter.unusedSimpArgs false
namespace Go.Proofs.YtbffgpfkgmhmhaaGreat.Dw
open Go.RowKit Go.Maps Go.Proofs.YtbffgpfkgmhmhaaGreatW.PrintWords Go.Proofs.YtbffgpfkgmhmhaaGreatW.PrintLast Go.Proofs.YtbffgpfkgmhmhaaGreatW.PrintMore Go.Proofs.YtbffgpfkgmhmhaaGreat.PPowerCuts Go.Proofs.Dk
set_option maxRecDepth 100000
/-! ### two powers -/
/-- The blocks of a power. -/
def Own (k : PW) (L : Lf) (i : Nat) : Prop := i = k.d ∨ i = k.mb ∨ i = k.pb ∨ (∃ r ∈ L, i = r.2.1) ∨ (0 < k.keep.length ∧ ∃ ad, k.A = some ad ∧ i = ad.block)
def Apart (k1 : PW) (L1 : Lf) (k2 : PW) (L2 : Lf) : Prop := ∀ i, Own k1 L1 i → ¬ Own k2 L2 i
theorem Apart.symm {k1 k2 : PW} {L1 L2 : Lf} (h : Apart k1 L1 k2 L2) : Apart k2 L2 k1 L1 := fun i h2 h1 => h i h1 h2
theorem IsP.own_lt {w : World} {k : PW} {L : Lf} {c : PC} (h : IsP w k L c) {i : Nat} (ho : Own k L i) : i < w.heap.size := by
  rcases ho with rfl | rfl | rfl | ⟨r, hr, rfl⟩ | ⟨hk, ad, hA, rfl⟩
  · exact heap_lt h.disk.top
  · exact h.disk.map.lt
  · exact heap_lt h.top
  · exact heap_lt (h.disk.file r hr)
  · obtain ⟨ad2, hA2, hc, _⟩ := h.kept 0 hk
    rw [hA] at hA2
    cases hA2
    have := cell_lt hc
    rwa [add_block] at this
theorem IsP.stay {w w' : World} {k1 k2 : PW} {L1 L1' L2 : Lf} {c2 : PC} (h2 : IsP w k2 L2 c2) (hT : TurnP w w' k1 L1 L1') (ha : Apart k1 L1 k2 L2) : IsP w' k2 L2 c2 ∧ Apart k1 L1' k2 L2 := by
  have hb : ∀ i, Own k2 L2 i → w'.heap[i]? = w.heap[i]? := fun i ho => hT.apt i (h2.own_lt ho) (fun e => ha i (Or.inr (Or.inl e)) ho) (fun e => ha i (Or.inr (Or.inr (Or.inl e))) ho) (fun p hp e => ha i (Or.inr (Or.inr (Or.inr (Or.inl ⟨p, hp, e⟩)))) ho)
  refine ⟨⟨?_, ?_, h2.low, h2.kl, ?_⟩, ?_⟩
  · refine h2.disk.same fun i o hi hk => (hb i ?_).trans hi
    rcases hk with rfl | rfl | ⟨p, hp, rfl⟩
    · exact Or.inl rfl
    · exact Or.inr (Or.inl rfl)
    · exact Or.inr (Or.inr (Or.inr (Or.inl ⟨p, hp, rfl⟩)))
  · exact (hb _ (Or.inr (Or.inr (Or.inl rfl)))).trans h2.top
  · intro j hj
    obtain ⟨ad, hA, hc, h3, h4⟩ := h2.kept j hj
    refine ⟨ad, hA, (cell_of_block ?_).trans hc, h3, h4⟩
    rw [add_block]
    exact hb _ (Or.inr (Or.inr (Or.inr (Or.inr ⟨by omega, ad, hA, rfl⟩))))
  · intro i h1 ho
    rcases h1 with e | e | e | ⟨r, hr, e⟩ | e
    · exact ha i (Or.inl e) ho
    · exact ha i (Or.inr (Or.inl e)) ho
    · exact ha i (Or.inr (Or.inr (Or.inl e))) ho
    · rcases hT.news r hr with ⟨p, hp, e2⟩ | h3
      · exact ha i (Or.inr (Or.inr (Or.inr (Or.inl ⟨p, hp, e.trans e2⟩)))) ho
      · have := h2.own_lt ho
        omega
    · exact ha i (Or.inr (Or.inr (Or.inr (Or.inr e)))) ho
set_option maxHeartbeats 1000000 in
theorem pnew_far (w : World) {base d mb q : Nat} {L : Lf} (hD : IsD w base d mb q L) (fuse : Int) (A : Option Addr) (cap : Nat) (keep : List Int) (hkl : keep.length ≤ 1000000) (hA : A = none → keep = [])
    (hk : Nums w A keep) : Calls Tryz.prog 8 #[.pointer (some ⟨d, 0, none⟩), .int .i64 fuse, .slice A keep.length cap] w fun e w' =>
      ∃ pb A' cap', e = .returned (.pointer (some ⟨pb, 0, none⟩)) ∧ IsP w' ⟨base, d, mb, q, pb, fuse, A', cap', keep⟩ L ⟨0, 0, 0, 0⟩ ∧ Below w.heap.size w w' ∧ w.heap.size ≤ pb ∧ ∀ ad, A' = some ad → w.heap.size ≤ ad.block := by
  have HD := Lib.hid hD
  have HC0 : Calls Tryz.prog 15 #[.slice A keep.length cap] w fun e w' => ∃ v', e = .returned v' ∧ w'.ownsRow w.heap.size 3 1 v' keep.length (keep.map (Value.int .i64)) ∧ Below w.heap.size w w' := by
    cases A with
    | none =>
      obtain rfl := hA rfl
      refine (clone_nil w _ _).mono ?_
      rintro e w' ⟨rfl, rfl⟩
      exact ⟨_, rfl, ⟨by simp, Or.inl ⟨rfl, rfl⟩⟩, Below.refl _ _⟩
    | some ad =>
      refine clone_some w ad keep.length cap (keep.map (Value.int .i64)) (by simp) hkl (fun j u hj => ?_) (fun u hu => ?_)
      · have hj2 : j < keep.length := by
          have := (List.getElem?_eq_some_iff.1 hj).1
          simpa using this
        obtain ⟨ad', ha, hc⟩ := hk j hj2
        cases ha
        rw [hc]
        rw [List.getElem?_map, List.getElem?_eq_getElem hj2] at hj
        exact hj
      · obtain ⟨x, _, rfl⟩ := List.mem_map.1 hu
        rfl
  have HC := Lib.hid HC0
  clear hD hk hA HC0
  go_enter Tryz.func8, Tryz.ntmps8
  go_wp2_with (go_at_call 15; refine HC.out.mono ?_; rintro e w1 ⟨v', rfl, hown, hB⟩; obtain ⟨A', cap', rfl⟩ := row_slice hown; have HO := Lib.hid hown; have HB := Lib.hid hB; clear hown hB)
  go_ret
  have hD1 := HD.out.below HB.out
  have hlow : base ≤ w1.heap.size := hD1.size
  have hsz := HB.out.size
  refine ⟨w1.heap.size, A', cap', rfl, ?_, HB.out.trans ((Below.refl _ w1).alloc hsz _), hsz, fun ad hA' => ?_⟩
  rotate_left
  · rcases HO.out.2 with ⟨he, h0⟩ | ⟨g, cap2, cur, he, hg, hcur, _⟩
    · injection he with e1 _ _
      rw [e1] at hA'
      cases hA'
    · injection he with e1 _ _
      rw [e1] at hA'
      cases hA'
      exact hg
  refine ⟨hD1.alloc _, heap_alloc_new w1 _, hlow, by dsimp only; omega, fun j hj => ?_⟩
  dsimp only at hj
  rcases HO.out.2 with ⟨he, h0⟩ | ⟨g, cap2, cur, he, hg, hcur, _⟩
  · omega
  · obtain ⟨rfl, rfl⟩ : A' = some ⟨g, 0, none⟩ ∧ cap' = cap2 := by injection he with h1 h2 h3; exact ⟨h1, h3⟩
    have hc := kept_row HO.out j hj
    refine ⟨⟨g, 0, none⟩, rfl, cell_below hc ((Below.refl _ w1).alloc (Nat.le_refl _) _), fun r hr e => ?_, fun e => ?_⟩
    · have h1 := heap_lt (HD.out.file r hr)
      dsimp only at e
      omega
    · have h1 := heap_lt hcur
      dsimp only at e
      omega
/-- New, by a power's parts alone, and where they lie. -/
theorem pnew_w (w : World) {base d mb q : Nat} {L : Lf} (hD : IsD w base d mb q L) (fuse : Int) (A : Option Addr) (cap : Nat) (keep : List Int) (hkl : keep.length ≤ 1000000) (hA : A = none → keep = [])
    (hk : Nums w A keep) : Calls Tryz.prog 8 #[.pointer (some ⟨d, 0, none⟩), .int .i64 fuse, .slice A keep.length cap] w fun e w' =>
      ∃ k : PW, e = .returned (.pointer (some ⟨k.pb, 0, none⟩)) ∧ k.base = base ∧ k.d = d ∧ k.mb = mb ∧ k.q = q ∧ k.fuse = fuse ∧ k.keep = keep ∧ IsP w' k L (pcOf ⟨fs L, 0, false⟩) ∧ Below w.heap.size w w' ∧ w.heap.size ≤ k.pb ∧ ∀ ad, k.A = some ad → w.heap.size ≤ ad.block := by
  refine (pnew_far w hD fuse A cap keep hkl hA hk).mono ?_
  rintro e w' ⟨pb, A', cap', rfl, hP, hB, hpb, hAf⟩
  exact ⟨_, rfl, rfl, rfl, rfl, rfl, rfl, rfl, hP, hB, hpb, hAf⟩
/-! ### the acts -/
def toWr (x : S28) : Wr := ⟨x.f0.toNat, x.f1.data.toList, x.f2.data.toList⟩
def isW (a : Wr) : Bool := decide (a.k % 8 < 5)
def acells (a : Wr) : List Value := [.int .u8 (a.k : Int), .string (bs a.n), .string (bs a.o)]
def flat (l : List Wr) : List Value := l.flatMap acells
theorem flat_snoc (l : List Wr) (a : Wr) : flat (l ++ [a]) = flat l ++ acells a := by simp [flat]
theorem flat_at : ∀ (l : List Wr) (j : Nat) (h : j < l.length), (flat l)[j * 3]? = some (.int .u8 (l[j].k : Int)) ∧ (flat l)[j * 3 + 1]? = some (.string (bs l[j].n)) ∧ (flat l)[j * 3 + 2]? = some (.string (bs l[j].o))
  | [], _, h => by simp at h
  | a :: r, 0, _ => ⟨rfl, rfl, rfl⟩
  | a :: r, j + 1, h => by
    have ih := flat_at r j (by simpa using h)
    have e : flat (a :: r) = acells a ++ flat r := rfl
    have hk : ∀ i, (flat (a :: r))[(j + 1) * 3 + i]? = (flat r)[j * 3 + i]? := fun i => by
      rw [e, List.getElem?_append_right (by show 3 ≤ _; omega)]
      congr 1
      show (j + 1) * 3 + i - 3 = _
      omega
    have h0 := hk 0
    rw [Nat.add_zero, Nat.add_zero] at h0
    exact ⟨h0.trans ih.1, (hk 1).trans ih.2.1, (hk 2).trans ih.2.2⟩
theorem row_slice28 {w : World} {B : Nat} {v : Value} {n : Nat} {xs : List Value} (h : w.ownsRow B 28 3 v n xs) : ∃ A cap, v = .slice A n cap := by
  rcases h.2 with ⟨rfl, rfl⟩ | ⟨g, cap, cur, rfl, _⟩
  · exact ⟨_, _, rfl⟩
  · exact ⟨_, _, rfl⟩
theorem addr_add (g j : Nat) : (⟨g, 0, none⟩ : Addr).add j = ⟨g, j, none⟩ := by unfold Addr.add; split <;> simp_all
theorem acts_row {w : World} {B base : Nat} {A : Option Addr} {cap : Nat} {l : List Wr} (h : w.ownsRow B 28 3 (.slice A l.length cap) l.length (flat l)) (hb : w.heap.size ≤ base) : Acts w base A l ∧ l.length ≤ cap := by
  constructor
  · intro W hW j hj
    rcases h.2 with ⟨_, h0⟩ | ⟨g, cap2, cur, he, hg, hcur, hn, _⟩
    · omega
    · cases he
      obtain ⟨f0, f1, f2⟩ := flat_at l j hj
      have hc : ∀ i u, (flat l)[i]? = some u → W.cell? ⟨g, i, none⟩ = some u := fun i u hu => by
        have h1 := h.cells rfl i u hu
        have h2 : w.cell? ⟨g, i, none⟩ = some u := by
          have e : (⟨g, 0, none⟩ : Addr).add i = ⟨g, i, none⟩ := addr_add g i
          rw [e] at h1
          exact h1
        refine (cell_of_block ?_).trans h2
        exact hW.block g (by have := heap_lt hcur; omega)
      have e3 : (⟨g, 0, none⟩ : Addr).add (j * 3) = ⟨g, j * 3, none⟩ := addr_add g (j * 3)
      refine ⟨⟨g, 0, none⟩, rfl, ?_, ?_, ?_⟩
      · rw [e3]; exact hc _ _ f0
      · rw [e3]; exact hc _ _ f1
      · rw [e3]; exact hc _ _ f2
  · rcases h.2 with ⟨_, h0⟩ | ⟨g, cap2, cur, he, hg, hcur, hn, _⟩
    · omega
    · cases he
      simpa using hn
theorem info28 : (Tryz.prog.info? 28).map (fun i => (i.zero, i.size, i.bytes)) = some (some (.agg #[.int .u8 0, .string { data := #[] }, .string { data := #[] }]), 3, 40) := by kernel_rfl
theorem u8_acts {l : List S28} (hok : ∀ x ∈ l, 0 ≤ x.f0 ∧ x.f0 < 256) {i : Nat} (h : i < l.length) : (rd_T28 l i).f0 = ((toWr l[i]).k : Int) ∧ (rd_T28 l i).f1 = bs (toWr l[i]).n ∧ (rd_T28 l i).f2 = bs (toWr l[i]).o := by
  have hx : rd_T28 l i = l[i] := by unfold rd_T28; simp [h]
  have := hok _ (List.getElem_mem h)
  rw [hx]
  exact ⟨by unfold toWr; dsimp only; omega, (bs_of _).symm, (bs_of _).symm⟩
end Go.Proofs.YtbffgpfkgmhmhaaGreat.Dw
/- PowerCuts' walk (function 3). -/
set_option linter.unusedVariables false
set_option linter.unusedSimpArgs false
namespace Go.Proofs.YtbffgpfkgmhmhaaGreat.Dw
open Go.RowKit Go.Maps Go.Proofs.YtbffgpfkgmhmhaaGreatW.PrintWords Go.Proofs.YtbffgpfkgmhmhaaGreatW.PrintLast Go.Proofs.YtbffgpfkgmhmhaaGreatW.PrintMore Go.Proofs.YtbffgpfkgmhmhaaGreat.PPowerCuts Go.Proofs.Dk
set_option maxRecDepth 100000
section
variable {P : Program} {ops : Array Oper} {rest : List Oper} {o : Oper} {a : Act} {Q : Exit → Act → World → Prop} {K : Act → World → Prop}
theorem app_rows {w0 W : World} (base : Nat) (hgd : o.guard = none) (s x : Operand) (t e : TypeId) (z : Value) (size bytes : Nat)
    (ho : o.op = .call { callee := .builtin .append, args := #[s, x], argTypes := #[t, t] })
    (ht : P.underlying t = some (.slice e)) (hinfo : (P.info? e).map (fun i => (i.zero, i.size, i.bytes)) = some (some z, size, bytes)) (hz : z.cells.size = size) (hs0 : 0 < size) (hb0 : 0 < bytes)
    (v : Value) (n : Nat) (xs : List Value) (A : Addr) (m c : Nat) (news : List Value) (hs : a.eval s = v) (hx : a.eval x = .slice (some A) m c) (hys : news.length = m * size) (hnews : ∀ j u, news[j]? = some u → W.cell? (A.add j) = some u) (h1 : ∀ u ∈ news, u.oneCell' = true)
    (HO : W.ownsRow base e size v n xs) (HB : Below base w0 W) (hbase : base ≤ W.heap.size) (hl : (n + m) * bytes ≤ 140737488355328)
    (h : ∀ v1 w1, w1.ownsRow base e size v1 (n + m) (xs ++ news) → Below base w0 w1 → wpList P ops Q rest (a.put o.dst v1) w1) :
    wpList P ops Q (o :: rest) a W := by
  obtain ⟨i0, hi, hzz⟩ := Option.map_eq_some_iff.1 hinfo
  simp only [Prod.mk.injEq] at hzz
  obtain ⟨hz0, hz1, hz2⟩ := hzz
  have hlen : n + m ≤ 140737488355328 := Nat.le_trans (Nat.le_mul_of_pos_right _ hb0) hl
  refine wpList_append_own_at W hgd s x t ho base e i0 z size bytes ht hi hz0 hz1 hz2 hz hs0 v n xs hs HO A m c news hx hys hnews h1 (by simp only [maxLen]; omega) hl hbase ?_
  intro v1 w1 hown hg _ hat
  exact h v1 w1 hown (HB.grown hg hbase (own_base HO))
end
theorem ones_a (a : Wr) : ∀ u ∈ acells a, u.oneCell' = true := fun u hu => by
  simp only [acells, List.mem_cons, List.not_mem_nil, or_false] at hu
  rcases hu with rfl | rfl | rfl <;> rfl
theorem new_a (W : World) (a : Wr) : ∀ j u, (acells a)[j]? = some u → (W.alloc (.cells #[.int .u8 (a.k : Int), .string (bs a.n), .string (bs a.o)] 28)).cell? ((⟨W.heap.size, 0, none⟩ : Addr).add j) = some u := fun j u hu => by
  have hn := heap_alloc_new W (.cells #[.int .u8 (a.k : Int), .string (bs a.n), .string (bs a.o)] 28)
  rw [addr_add]
  refine cells_of hn ?_
  rw [← Array.getElem?_toList]
  exact hu
/-- The first i acts that are writes. -/
def filt (al : List Wr) (i : Nat) : List Wr := (al.take i).filter isW
theorem filt_snoc {al : List Wr} {i : Nat} (h : i < al.length) : filt al (i + 1) = if al[i].k % 8 < 5 then filt al i ++ [al[i]] else filt al i := by
  unfold filt
  rw [List.take_succ_eq_append_getElem h, List.filter_append]
  by_cases h5 : al[i].k % 8 < 5
  · rw [if_pos h5, List.filter_cons_of_pos (by simp [isW, h5])]; rfl
  · rw [if_neg h5, List.filter_cons_of_neg (by simp [isW, h5])]; simp
theorem filt_len (al : List Wr) (i : Nat) : (filt al i).length ≤ i := Nat.le_trans (List.length_filter_le _ _) (by rw [List.length_take]; omega)
theorem filt_writes (al : List Wr) (i : Nat) : ∀ a ∈ filt al i, a.k % 8 < 5 := fun a ha => by simpa [isW] using (List.mem_filter.1 ha).2
theorem filt_mem {al : List Wr} {i : Nat} {a : Wr} (h : a ∈ filt al i) : a ∈ al := List.mem_of_mem_take (List.mem_filter.1 h).1
theorem rd_at {l : List S28} {j : Nat} (hj : j < l.length) : rd_T28 l j = l[j] := by
  unfold rd_T28
  rw [Int.toNat_natCast, List.getD_eq_getElem?_getD, List.getElem?_eq_getElem hj]
  rfl
theorem wr_len (x : S28) : (toWr x).o.length = x.f2.size := by
  show x.f2.data.toList.length = x.f2.data.size
  exact Array.length_toList
/-- Two disks and two powers over them. -/
structure Two (w : World) (kp : PW) (Lp : Lf) (sp : PS) (kq : PW) (Lq : Lf) (sq : PS) : Prop where
  p : IsP w kp Lp (pcOf sp)
  q : IsP w kq Lq (pcOf sq)
  apart : Apart kp Lp kq Lq
  lp : fs Lp = sp.l
  lq : fs Lq = sq.l
theorem Two.below {w w' : World} {kp kq : PW} {Lp Lq : Lf} {sp sq : PS} (h : Two w kp Lp sp kq Lq sq) (hB : Below w.heap.size w w') : Two w' kp Lp sp kq Lq sq := ⟨h.p.below hB, h.q.below hB, h.apart, h.lp, h.lq⟩
theorem Two.didP {w w' : World} {kp kq : PW} {Lp Lp' Lq : Lf} {sp sp' sq : PS} (h : Two w kp Lp sp kq Lq sq) (hl : fs Lp' = sp'.l) (hP : IsP w' kp Lp' (pcOf sp')) (hT : TurnP w w' kp Lp Lp') : Two w' kp Lp' sp' kq Lq sq :=
  ⟨hP, (h.q.stay hT h.apart).1, (h.q.stay hT h.apart).2, hl, h.lq⟩
theorem Two.didQ {w w' : World} {kp kq : PW} {Lp Lq' Lq : Lf} {sp sq' sq : PS} (h : Two w kp Lp sp kq Lq sq) (hl : fs Lq' = sq'.l) (hP : IsP w' kq Lq' (pcOf sq')) (hT : TurnP w w' kq Lq Lq') : Two w' kp Lp sp kq Lq' sq' :=
  ⟨(h.p.stay hT h.apart.symm).1, hP, (h.p.stay hT h.apart.symm).2.symm, h.lp, hl⟩
set_option maxHeartbeats 2000000 in
theorem pcuts_calls (w : World) (fz : Nat) (hfz : fz < 256) (A0 : Option Addr) (c0 : Nat) (keep : List Int) (hk0 : Nums w A0 keep) (hkn : A0 = none → keep = []) (hkl : keep.length ≤ 9223372036854775807)
    (A1 : Option Addr) (c1 : Nat) (acts : List S28) (hC : Kd.C k28 w A1 acts.length acts) (hc : acts.length ≤ c1) (hok : ∀ x ∈ acts, 0 ≤ x.f0 ∧ x.f0 < 256) :
    Calls Tryz.prog 3 #[.int .u8 (fz : Int), .slice A0 keep.length c0, .slice A1 acts.length c1] w fun e w' => e = .returned (.bool true) ∧ Below w.heap.size w w' := by
  obtain ⟨r, hr, hfew⟩ := few_calls A1 c1 acts w hC hc
  have HFew := Lib.hid hfew
  have HC0 := Lib.hid hC
  have HOk := Lib.hid hok
  have HK0 := Lib.hid hk0
  have HKn := Lib.hid hkn
  clear hfew hC hok hk0 hkn
  go_enter Tryz.func3, Tryz.ntmps3
  go_wp2_with fail
  refine HFew.out.mono ?_
  rintro e w1 ⟨rfl, hB1⟩
  have HB1 := Lib.hid hB1
  clear hB1 HFew
  cases r with
  | false =>
    clear hr
    go_wp2_with fail
    refine (awake_calls w1).mono ?_
    rintro e w2 ⟨rfl, hB2⟩
    have HB2 := Lib.hid (HB1.out.trans (hB2.mono HB1.out.size))
    clear hB2
    go_wp2_with fail
    go_ret
    exact ⟨rfl, HB2.out⟩
  | true =>
    obtain ⟨hl80, hbz⟩ := hr rfl
    have HZ := Lib.hid hbz
    clear hbz hr
    by_cases h20 : keep.length ≤ 20
    rotate_left
    · have d20 : decide ((20 : Int) < (keep.length : Int)) = true := decide_eq_true (by omega)
      go_wp2_with fail
      refine (awake_calls w1).mono ?_
      rintro e w2 ⟨rfl, hB2⟩
      have HB2 := Lib.hid (HB1.out.trans (hB2.mono HB1.out.size))
      clear hB2
      go_wp2_with fail
      go_ret
      exact ⟨rfl, HB2.out⟩
    have d20 : decide ((20 : Int) < (keep.length : Int)) = false := decide_eq_false (by omega)
    obtain ⟨al, hal⟩ : ∃ al, acts.map toWr = al := ⟨_, rfl⟩
    have hall : al.length = acts.length := by rw [← hal, List.length_map]
    go_wp2_with fail
    go_loopw [7, 8] (fun t7 t8 wr => ∃ (i : Nat) (A7 : Option Addr) (c7 : Nat), i ≤ acts.length ∧ t8 = .int .i64 i ∧ t7 = .slice A7 (filt al i).length c7 ∧ wr.ownsRow w.heap.size 28 3 (.slice A7 (filt al i).length c7) (filt al i).length (flat (filt al i)) ∧ Below w.heap.size w wr) (fun _ t8 _ => acts.length - (intOf t8).toNat)
    case atStart => exact ⟨0, none, 0, Nat.zero_le _, rfl, rfl, World.ownsRow_nil _ _ _ _, HB1.out⟩
    case round =>
      obtain ⟨i, A7, c7, hi, rfl, rfl, hO, hB⟩ := hrel
      clear HB1
      have HO := Lib.hid hO
      have HB := Lib.hid hB
      clear hO hB
      by_cases hlt : i < acts.length
      · have hltb : decide ((i : Int) < (acts.length : Int)) = true := decide_eq_true (by omega)
        have hk0 : 0 ≤ (i : Int) := by omega
        have hia : i < al.length := by omega
        obtain ⟨ad, hA1, a0, a1, a2⟩ := at_T28 HC0.out i (by omega) (by omega)
        obtain ⟨⟨ab, af, ap⟩, rfl⟩ : ∃ b, ad = b := ⟨ad, rfl⟩
        subst hA1
        obtain ⟨e0, e1, e2⟩ := u8_acts HOk.out hlt
        have hai : toWr acts[i] = al[i] := by subst hal; rw [List.getElem_map]
        rw [hai] at e0 e1 e2
        rw [e0] at a0
        rw [e1] at a1
        rw [e2] at a2
        simp only [Int.toNat_natCast] at a0 a1 a2
        have hst := Lib.hid (filt_snoc hia)
        clear hai e0 e1 e2
        generalize al[i] = a at *
        have b0 := cell_below a0 HB.out
        have b1 := cell_below a1 HB.out
        have b2 := cell_below a2 HB.out
        have hwc := hindcastlaw13_writes.calls (a.k : Int) (bs a.n) (bs a.o) (decide (Int.tmod (a.k : Int) 8 < 5)) wr rfl
        clear a0 a1 a2
        have HW := Lib.hid hwc
        clear hwc
        go_wp2_with fail
        refine HW.out.mono ?_
        rintro e w2 ⟨rfl, hB2⟩
        have b0 := cell_below b0 hB2
        have b1 := cell_below b1 hB2
        have b2 := cell_below b2 hB2
        have HO2 := Lib.hid (pw_own_below HO.out hB2)
        have HB2 := Lib.hid (HB.out.trans (hB2.mono HB.out.size))
        clear hB2 HO HB HW
        have htm : Int.tmod (a.k : Int) 8 = ((a.k % 8 : Nat) : Int) := (Int.ofNat_tmod a.k 8).symm
        by_cases h5 : a.k % 8 < 5
        · have d5 : decide (Int.tmod (a.k : Int) 8 < 5) = true := decide_eq_true (by rw [htm]; omega)
          rw [d5]
          clear d5 htm
          have HB3 := Lib.hid (HB2.out.alloc HB2.out.size (.cells #[.int .u8 (a.k : Int), .string (bs a.n), .string (bs a.o)] 28))
          have HO3 := Lib.hid (World.ownsRow.alloc HO2.out (.cells #[.int .u8 (a.k : Int), .string (bs a.n), .string (bs a.o)] 28))
          have hfl := filt_len al i
          rw [if_pos h5] at hst
          go_wp2_with (first | ((with_reducible refine gate_builtin (b := .append) (xs := #[.tmp 35, .tmp 40]) rfl ?_); at_builtin; refine app_rows (w0 := w) w.heap.size rfl (.tmp 35) (.tmp 40) 23 28 (.agg #[.int .u8 0, .string { data := #[] }, .string { data := #[] }]) 3 40 rfl Tryz.underlying23 info28 rfl (by decide) (by decide) (.slice A7 (filt al i).length c7) (filt al i).length (flat (filt al i)) ⟨w2.heap.size, 0, none⟩ 1 1 (acells a) rfl rfl rfl (new_a w2 a) (ones_a a) HO3.out HB3.out (by have := HB2.out.size; simp; omega) (by omega) ?_; intro v6 v7 hown6 hB6; obtain ⟨A6, c6, hv6⟩ := row_slice28 hown6; subst hv6; have HO6 := Lib.hid hown6; have HB6 := Lib.hid hB6; clear hown6 hB6))
          have HX := Lib.hid (show (filt al i).length + 1 = (filt al (i + 1)).length by rw [hst.out, List.length_append]; rfl)
          have HO7 := Lib.hid (show v7.ownsRow w.heap.size 28 3 (.slice A6 (filt al (i + 1)).length c6) (filt al (i + 1)).length (flat (filt al (i + 1))) by rw [← HX.out, hst.out, flat_snoc]; exact HO6.out)
          clear HO6 HB3 HO3 HO2 HB2 b0 b1 b2 hst
          rw [HX.out]
          clear HX
          go_wp2_with fail
          go_roundw
          case rel => exact ⟨i + 1, A6, c6, by omega, by go_num, rfl, HO7.out, HB6.out⟩
          case measure => simp [intOf]; omega
        · have d5 : decide (Int.tmod (a.k : Int) 8 < 5) = false := decide_eq_false (by rw [htm]; omega)
          rw [d5]
          clear d5 htm
          rw [if_neg h5] at hst
          have HO7 := Lib.hid (show w2.ownsRow w.heap.size 28 3 (.slice A7 (filt al (i + 1)).length c7) (filt al (i + 1)).length (flat (filt al (i + 1))) by rw [hst.out]; exact HO2.out)
          have HX := Lib.hid (show (filt al i).length = (filt al (i + 1)).length by rw [hst.out])
          rw [HX.out]
          clear HX HO2 b0 b1 b2 hst
          go_wp2_with fail
          go_roundw
          case rel => exact ⟨i + 1, A7, c7, by omega, by go_num, rfl, HO7.out, HB2.out⟩
          case measure => simp [intOf]; omega
      · have hltb : decide ((i : Int) < (acts.length : Int)) = false := decide_eq_false (by omega)
        obtain rfl : i = acts.length := by omega
        go_wp2_with fail
        have hll : (filt al acts.length).length ≤ 80 := Nat.le_trans (filt_len _ _) hl80
        have hwr := Lib.hid (filt_writes al acts.length)
        have hokl := Lib.hid (show ∀ a ∈ filt al acts.length, a.o.length ≤ 100000 ∧ a.k < 256 from fun a ha => by
          have h1 := filt_mem ha
          rw [← hal] at h1
          obtain ⟨x, hx, rfl⟩ := List.mem_map.1 h1
          obtain ⟨j, hj, rfl⟩ := List.getElem_of_mem hx
          have h2 := HZ.out j hj
          have h3 := HOk.out _ hx
          rw [rd_at hj] at h2
          refine ⟨?_, by unfold toWr; dsimp only; omega⟩
          have h4 := wr_len acts[j]
          omega)
        generalize filt al acts.length = l at *
        clear hltb hall hal HOk HZ HC0
        obtain ⟨n, hn⟩ : ∃ n, fz % 90 = n := ⟨_, rfl⟩
        have hn2 : (fz : Int) % 90 = (n : Int) := by omega
        have hn90 : n < 90 := by omega
        clear hn
        rw [hn2]
        clear hn2
        refine (new_ok wr 5000 (by decide)).mono ?_
        rintro e w3 ⟨d1, m1, rfl, hD1, hB3⟩
        have HD1 := Lib.hid hD1
        have HB3 := Lib.hid hB3
        clear hD1 hB3
        go_wp2_with fail
        refine (new_ok w3 5000 (by decide)).mono ?_
        rintro e w4 ⟨d2, m2, rfl, hD2, hB4⟩
        have hs3 := HB3.out.size
        have HD14 := Lib.hid (HD1.out.below hB4)
        have HD2 := Lib.hid hD2
        have HB4 := Lib.hid (HB3.out.trans (hB4.mono HB3.out.size))
        have hs4 := hB4.size
        have hd1 := heap_lt HD1.out.top
        have hm1 := HD1.out.map.lt
        clear hB4 hD2 HD1 HB3
        go_wp2_with fail
        refine (pnew_w w4 HD14.out n A0 c0 keep (by omega) HKn.out (nums_below HK0.out (HB.out.trans (HB4.out.mono HB.out.size)))).mono ?_
        rintro e w5 ⟨kp, rfl, hpb, rfl, hpm, hpq, hpf, hpk, hP, hB5, hplow, hpA⟩
        have HD25 := Lib.hid (HD2.out.below hB5)
        have HB5 := Lib.hid (HB4.out.trans (hB5.mono (Nat.le_trans HB4.out.size (Nat.le_refl _))))
        have hs5 := hB5.size
        have hd2 := heap_lt HD2.out.top
        have hm2 := HD2.out.map.lt
        have hd2l := HD2.out.dlow
        have hm2l := HD2.out.mlow
        have HP5 := Lib.hid hP
        clear hB5 hP HD14 HD2 HB4
        go_wp2_with fail
        refine (pnew_w w5 HD25.out (-1) A0 c0 keep (by omega) HKn.out (nums_below HK0.out (HB.out.trans (HB5.out.mono HB.out.size)))).mono ?_
        rintro e w6 ⟨kq, rfl, hqb, rfl, hqm, hqq, hqf, hqk, hQ, hB6, hqlow, hqA⟩
        have hpbl := heap_lt HP5.out.top
        have hpAl : ∀ ad, 0 < kp.keep.length → kp.A = some ad → ad.block < w5.heap.size := fun ad h0 hA => HP5.out.own_lt (Or.inr (Or.inr (Or.inr (Or.inr ⟨h0, ad, hA, rfl⟩))))
        have hap : Apart kp [] kq [] := by
          intro i h1 h2
          have e1 : i = kp.d ∨ i = m1 ∨ (w4.heap.size ≤ i ∧ i < w5.heap.size) := by
            rcases h1 with rfl | rfl | rfl | ⟨r, hr, _⟩ | ⟨h0, ad, hA, rfl⟩
            · exact Or.inl rfl
            · exact Or.inr (Or.inl hpm)
            · exact Or.inr (Or.inr ⟨hplow, hpbl⟩)
            · cases hr
            · exact Or.inr (Or.inr ⟨hpA ad hA, hpAl ad h0 hA⟩)
          have e2 : (w3.heap.size ≤ i ∧ i < w4.heap.size) ∨ w5.heap.size ≤ i := by
            rcases h2 with rfl | rfl | rfl | ⟨r, hr, _⟩ | ⟨h0, ad, hA, rfl⟩
            · exact Or.inl ⟨hd2l, hd2⟩
            · exact Or.inl (by rw [hqm]; exact ⟨hm2l, hm2⟩)
            · exact Or.inr hqlow
            · cases hr
            · exact Or.inr (hqA ad hA)
          omega
        have HT := Lib.hid (show Two w6 kp [] ⟨[], 0, false⟩ kq [] ⟨[], 0, false⟩ from ⟨HP5.out.below hB6, hQ, hap, rfl, rfl⟩)
        have HB6 := Lib.hid (HB5.out.trans (hB6.mono (Nat.le_trans HB5.out.size (Nat.le_refl _))))
        obtain ⟨hA, hcap⟩ := acts_row HO.out (Nat.le_of_eq hpb.symm)
        have HAp := Lib.hid (hA.below (HB6.out.mono (Nat.le_of_eq hpb)))
        have HQb := Lib.hid (show kp.base ≤ kq.base by rw [hpb, hqb]; exact hs3)
        have HO6 := Lib.hid (pw_own_below HO.out HB6.out)
        have HPb := Lib.hid hpb
        have HPq := Lib.hid hpq
        have HPf := Lib.hid hpf
        have HPk := Lib.hid hpk
        have HQq := Lib.hid hqq
        have HQf := Lib.hid hqf
        have HQk := Lib.hid hqk
        clear hpbl hpAl hap hB6 hA hplow hpA hqlow hqA hpm hqm hd1 hm1 hd2 hm2 hd2l hm2l hQ HP5 HD25 HB5 hs3 hs4 hs5 hpb hpq hpf hpk hqb hqq hqf hqk HO
        go_wp2_with fail
        refine (run_calls w6 HT.out.p rfl (by rw [HPf.out]; omega) A7 c7 l (by omega) (by decide) hokl.out HAp.out).mono ?_
        rintro e w7 ⟨⟨v7, rfl⟩, hB7, L7, hL7, hP7, hT7⟩
        rw [HPq.out, HPf.out, HPk.out] at hL7 hP7
        have HB7 := Lib.hid (HB6.out.trans (by rw [← HPb.out]; exact hB7))
        have HT7 := Lib.hid (HT.out.didP hL7 hP7 hT7)
        have HAq7 := Lib.hid (Acts.mono (Acts.below HAp.out hB7) HQb.out)
        clear hB7 hL7 hP7 hT7 HT HAp HB6
        by_cases hnl : l.length ≤ n
        · have dn : decide ((l.length : Int) ≤ (n : Int)) = true := decide_eq_true (by omega)
          have e1 := run_p 5000 n keep l hwr.out hnl
          rw [e1] at HT7
          clear e1
          go_wp2_with fail
          refine (run_calls w7 HT7.out.q rfl (by rw [HQf.out]; decide) A7 c7 l (by omega) (by decide) hokl.out HAq7.out).mono ?_
          rintro e w8 ⟨⟨v8, rfl⟩, hB8, L8, hL8, hP8, hT8⟩
          rw [HQq.out, HQf.out, HQk.out, run_q 5000 keep l hwr.out] at hL8 hP8
          have HT8 := Lib.hid (HT7.out.didQ hL8 hP8 hT8)
          have HB8 := Lib.hid (HB7.out.trans (hB8.mono (by have := HQb.out; have := HPb.out; omega)))
          clear hB8 hL8 hP8 hT8 HT7 HB7 HAq7
          go_wp2_with fail
          refine (down_s w8 HT8.out.p).mono ?_
          rintro e w9 ⟨rfl, hw9⟩
          obtain rfl := hw9.symm
          dsimp only
          go_wp2_with fail
          refine (writes_calls w8 HT8.out.p).mono ?_
          rintro e w9 ⟨rfl, hw9⟩
          obtain rfl := hw9.symm
          rw [show (pcOf ⟨foldW 5000 l [], l.length, false⟩).wr = (l.length : Int) from rfl]
          go_wp2_with fail
          refine (same_calls w8 HT8.out.p.disk HT8.out.q.disk (HT8.out.lp.trans HT8.out.lq.symm)).mono ?_
          rintro e w9 ⟨rfl, hB9⟩
          have HB9 := Lib.hid (HB8.out.trans (hB9.mono HB8.out.size))
          clear hB9 HT8 HB8
          go_wp2_with fail
          refine (awake_calls w9).mono ?_
          rintro e w10 ⟨rfl, hB10⟩
          have HB10 := Lib.hid (HB9.out.trans (hB10.mono HB9.out.size))
          clear hB10 HB9
          go_wp2_with fail
          go_ret
          exact ⟨rfl, HB.out.trans (HB10.out.mono HB.out.size)⟩
        · have dn : decide ((l.length : Int) ≤ (n : Int)) = false := decide_eq_false (by omega)
          have hlt2 : n < l.length := by omega
          have HK7 := Lib.hid (nums_below HK0.out (HB.out.trans (HB7.out.mono HB.out.size)))
          clear HK0 HKn
          by_cases h0 : 0 < keep.length
          rotate_left
          · have dk : decide ((0 : Int) < (keep.length : Int)) = false := decide_eq_false (by omega)
            have hol : oddK keep = false := by rw [List.length_eq_zero_iff.1 (show keep.length = 0 by omega)]; rfl
            have e1 : runS 5000 n keep l ⟨[], 0, false⟩ = ⟨crash keep (foldW 5000 (l.take (n)) []), n + 1, true⟩ := by rw [run_cut 5000 n keep l hwr.out hlt2, hol]; rfl
            rw [e1] at HT7
            clear e1 hol
            go_wp2_with fail
            have hm : (l.take (n)).length = n := by rw [List.length_take]; omega
            have hrc := run_calls w7 HT7.out.q rfl (by rw [HQf.out]; decide) A7 c7 (l.take (n)) (by omega) (by decide) (fun a ha => hokl.out a (List.mem_of_mem_take ha)) (HAq7.out.take (n))
            rw [hm] at hrc
            refine hrc.mono ?_
            rintro e w8 ⟨⟨v8, rfl⟩, hB8, L8, hL8, hP8, hT8⟩
            rw [HQq.out, HQf.out, HQk.out, run_q 5000 keep (l.take (n)) (fun a ha => hwr.out a (List.mem_of_mem_take ha))] at hL8 hP8
            have HT8 := Lib.hid (HT7.out.didQ hL8 hP8 hT8)
            have HB8 := Lib.hid (HB7.out.trans (hB8.mono (by have := HQb.out; have := HPb.out; omega)))
            clear hB8 hL8 hP8 hT8 HT7 HB7 HAq7 hrc
            go_wp2_with fail
            refine (blow_on w8 HT8.out.q rfl rfl).mono ?_
            rintro e w9 ⟨⟨v9, rfl⟩, L9, hL9, hP9, hB9, hT9⟩
            have HT9 := Lib.hid (HT8.out.didQ (sq' := ⟨crash keep (foldW 5000 (l.take (n)) []), (l.take (n)).length, true⟩) (by rw [hL9, HQk.out, HT8.out.lq]) hP9 hT9)
            have HB9 := Lib.hid (HB8.out.trans (hB9.mono (by have := HQb.out; have := HPb.out; omega)))
            clear hB9 hL9 hP9 hT9 HT8 HB8
            go_wp2_with fail
            refine (down_s w9 HT9.out.p).mono ?_
            rintro e w10 ⟨rfl, hw9⟩
            obtain rfl := hw9.symm
            dsimp only
            go_wp2_with fail
            refine (writes_calls w9 HT9.out.p).mono ?_
            rintro e w10 ⟨rfl, hw9⟩
            obtain rfl := hw9.symm
            rw [show (pcOf ⟨crash keep (foldW 5000 (l.take (n)) []), n + 1, true⟩).wr = (n : Int) + 1 from rfl]
            go_wp2_with fail
            refine (same_calls w9 HT9.out.p.disk HT9.out.q.disk (HT9.out.lp.trans HT9.out.lq.symm)).mono ?_
            rintro e w10 ⟨rfl, hB10⟩
            have HB10 := Lib.hid (HB9.out.trans (hB10.mono HB9.out.size))
            clear hB10 HT9 HB9
            go_wp2_with fail
            refine (awake_calls w10).mono ?_
            rintro e w11 ⟨rfl, hB11⟩
            have HB11 := Lib.hid (HB10.out.trans (hB11.mono HB10.out.size))
            clear hB11 HB10
            go_wp2_with fail
            go_ret
            exact ⟨rfl, HB.out.trans (HB11.out.mono HB.out.size)⟩
          · have dk : decide ((0 : Int) < (keep.length : Int)) = true := decide_eq_true (by omega)
            obtain ⟨⟨kb, ko, kx⟩, hA0, hkc⟩ := HK7.out 0 h0
            subst hA0
            have hob : (bits .and .i64 keep[0] 1 == 1) = oddK keep := by
              cases keep with
              | nil => cases h0
              | cons x r => rfl
            rw [add_zero'] at hkc
            generalize keep[0] = x0 at *
            cases hol : oddK keep with
            | false =>
              rw [hol] at hob
              have e1 : runS 5000 n keep l ⟨[], 0, false⟩ = ⟨crash keep (foldW 5000 (l.take (n)) []), n + 1, true⟩ := by rw [run_cut 5000 n keep l hwr.out hlt2, hol]; rfl
              rw [e1] at HT7
              clear e1 hol
              go_wp2_with fail
              have hm : (l.take (n)).length = n := by rw [List.length_take]; omega
              have hrc := run_calls w7 HT7.out.q rfl (by rw [HQf.out]; decide) A7 c7 (l.take (n)) (by omega) (by decide) (fun a ha => hokl.out a (List.mem_of_mem_take ha)) (HAq7.out.take (n))
              rw [hm] at hrc
              refine hrc.mono ?_
              rintro e w8 ⟨⟨v8, rfl⟩, hB8, L8, hL8, hP8, hT8⟩
              rw [HQq.out, HQf.out, HQk.out, run_q 5000 keep (l.take (n)) (fun a ha => hwr.out a (List.mem_of_mem_take ha))] at hL8 hP8
              have HT8 := Lib.hid (HT7.out.didQ hL8 hP8 hT8)
              have HB8 := Lib.hid (HB7.out.trans (hB8.mono (by have := HQb.out; have := HPb.out; omega)))
              clear hB8 hL8 hP8 hT8 HT7 HB7 HAq7 hrc
              go_wp2_with fail
              refine (blow_on w8 HT8.out.q rfl rfl).mono ?_
              rintro e w9 ⟨⟨v9, rfl⟩, L9, hL9, hP9, hB9, hT9⟩
              have HT9 := Lib.hid (HT8.out.didQ (sq' := ⟨crash keep (foldW 5000 (l.take (n)) []), (l.take (n)).length, true⟩) (by rw [hL9, HQk.out, HT8.out.lq]) hP9 hT9)
              have HB9 := Lib.hid (HB8.out.trans (hB9.mono (by have := HQb.out; have := HPb.out; omega)))
              clear hB9 hL9 hP9 hT9 HT8 HB8
              go_wp2_with fail
              refine (down_s w9 HT9.out.p).mono ?_
              rintro e w10 ⟨rfl, hw9⟩
              obtain rfl := hw9.symm
              dsimp only
              go_wp2_with fail
              refine (writes_calls w9 HT9.out.p).mono ?_
              rintro e w10 ⟨rfl, hw9⟩
              obtain rfl := hw9.symm
              rw [show (pcOf ⟨crash keep (foldW 5000 (l.take (n)) []), n + 1, true⟩).wr = (n : Int) + 1 from rfl]
              go_wp2_with fail
              refine (same_calls w9 HT9.out.p.disk HT9.out.q.disk (HT9.out.lp.trans HT9.out.lq.symm)).mono ?_
              rintro e w10 ⟨rfl, hB10⟩
              have HB10 := Lib.hid (HB9.out.trans (hB10.mono HB9.out.size))
              clear hB10 HT9 HB9
              go_wp2_with fail
              refine (awake_calls w10).mono ?_
              rintro e w11 ⟨rfl, hB11⟩
              have HB11 := Lib.hid (HB10.out.trans (hB11.mono HB10.out.size))
              clear hB11 HB10
              go_wp2_with fail
              go_ret
              exact ⟨rfl, HB.out.trans (HB11.out.mono HB.out.size)⟩
            | true =>
              rw [hol] at hob
              have e1 : runS 5000 n keep l ⟨[], 0, false⟩ = ⟨crash keep (foldW 5000 (l.take (n + 1)) []), n + 1, true⟩ := by rw [run_cut 5000 n keep l hwr.out hlt2, hol]; rfl
              rw [e1] at HT7
              clear e1 hol
              go_wp2_with fail
              have hm : (l.take (n + 1)).length = n + 1 := by rw [List.length_take]; omega
              have hrc := run_calls w7 HT7.out.q rfl (by rw [HQf.out]; decide) A7 c7 (l.take (n + 1)) (by omega) (by decide) (fun a ha => hokl.out a (List.mem_of_mem_take ha)) (HAq7.out.take (n + 1))
              rw [hm] at hrc
              refine hrc.mono ?_
              rintro e w8 ⟨⟨v8, rfl⟩, hB8, L8, hL8, hP8, hT8⟩
              rw [HQq.out, HQf.out, HQk.out, run_q 5000 keep (l.take (n + 1)) (fun a ha => hwr.out a (List.mem_of_mem_take ha))] at hL8 hP8
              have HT8 := Lib.hid (HT7.out.didQ hL8 hP8 hT8)
              have HB8 := Lib.hid (HB7.out.trans (hB8.mono (by have := HQb.out; have := HPb.out; omega)))
              clear hB8 hL8 hP8 hT8 HT7 HB7 HAq7 hrc
              go_wp2_with fail
              refine (blow_on w8 HT8.out.q rfl rfl).mono ?_
              rintro e w9 ⟨⟨v9, rfl⟩, L9, hL9, hP9, hB9, hT9⟩
              have HT9 := Lib.hid (HT8.out.didQ (sq' := ⟨crash keep (foldW 5000 (l.take (n + 1)) []), (l.take (n + 1)).length, true⟩) (by rw [hL9, HQk.out, HT8.out.lq]) hP9 hT9)
              have HB9 := Lib.hid (HB8.out.trans (hB9.mono (by have := HQb.out; have := HPb.out; omega)))
              clear hB9 hL9 hP9 hT9 HT8 HB8
              go_wp2_with fail
              refine (down_s w9 HT9.out.p).mono ?_
              rintro e w10 ⟨rfl, hw9⟩
              obtain rfl := hw9.symm
              dsimp only
              go_wp2_with fail
              refine (writes_calls w9 HT9.out.p).mono ?_
              rintro e w10 ⟨rfl, hw9⟩
              obtain rfl := hw9.symm
              rw [show (pcOf ⟨crash keep (foldW 5000 (l.take (n + 1)) []), n + 1, true⟩).wr = (n : Int) + 1 from rfl]
              go_wp2_with fail
              refine (same_calls w9 HT9.out.p.disk HT9.out.q.disk (HT9.out.lp.trans HT9.out.lq.symm)).mono ?_
              rintro e w10 ⟨rfl, hB10⟩
              have HB10 := Lib.hid (HB9.out.trans (hB10.mono HB9.out.size))
              clear hB10 HT9 HB9
              go_wp2_with fail
              refine (awake_calls w10).mono ?_
              rintro e w11 ⟨rfl, hB11⟩
              have HB11 := Lib.hid (HB10.out.trans (hB11.mono HB10.out.size))
              clear hB11 HB10
              go_wp2_with fail
              go_ret
              exact ⟨rfl, HB.out.trans (HB11.out.mono HB.out.size)⟩
end Go.Proofs.YtbffgpfkgmhmhaaGreat.Dw
