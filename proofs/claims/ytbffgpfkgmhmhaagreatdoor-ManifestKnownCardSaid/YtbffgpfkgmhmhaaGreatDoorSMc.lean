/- Append (function 29). -/
import Derived.Test.YtbffgpfkgmhmhaaGreatDoorSMb
import Derived.Laws.LoneSync
import Derived.Defers
import Derived.RegionCalls
import Derived.Conc.MuLone
import Derived.Lib.SliceRun
set_option linter.unusedVariables false
set_option linter.unusedSimpArgs false
namespace Go.Proofs.YtbffgpfkgmhmhaaGreatDoor.Dw
open Go.RowKit Go.Maps Go.Proofs.YtbffgpfkgmhmhaaGreatDoorW.PrintWords Go.Proofs.YtbffgpfkgmhmhaaGreatDoorW.PrintLast Go.Proofs.YtbffgpfkgmhmhaaGreatDoorW.PrintMore Go.Proofs.Dk
set_option maxRecDepth 100000
theorem append_bad (q : Nat) (l : FS) {n b : Tx} (h : nameOk n = false) : append q l n b = (l, 2) := by
  simp [Dk.append, h]
theorem append_none (q : Nat) {L : Lf} {n b : Tx} (h : nameOk n = true) (hg : get L n = none) : append q (fs L) n b = (fs L, 5) := by
  have := fs_get L n
  rw [hg] at this
  simp [Dk.append, h, this]
theorem append_full (q : Nat) {L : Lf} {n b : Tx} (h : nameOk n = true) {p : Nat × Fl} (hg : get L n = some p) (hf : 65536 < p.2.b.length + b.length ∨ q < used (fs L) + b.length) : append q (fs L) n b = (fs L, 7) := by
  have := fs_get L n
  rw [hg] at this
  simp [Dk.append, h, this, hf]
theorem append_fits (q : Nat) {L : Lf} {n b : Tx} (h : nameOk n = true) {p : Nat × Fl} (hg : get L n = some p) (hf : ¬ (65536 < p.2.b.length + b.length ∨ q < used (fs L) + b.length)) : append q (fs L) n b = (upd (fs L) n (fun f => ⟨f.b ++ b, f.s⟩), 0) := by
  have := fs_get L n
  rw [hg] at this
  simp [Dk.append, h, this, hf]
theorem bs_append (a b : Tx) : bs a ++ bs b = bs (a ++ b) := by
  apply ByteArray.ext
  simp [bs, ByteArray.data_append]
set_option maxHeartbeats 2000000 in
theorem append_turn (w : World) {base d mb q : Nat} {L : Lf} (hD : IsD w base d mb q L) (n b : Tx) (hb : b.length ≤ 100000) :
    Calls Tryz.prog 103 #[.pointer (some ⟨d, 0, none⟩), .string (bs n), .string (bs b)] w (DidT w base d mb q L (append q (fs L) n b)) := by
  have HF := Lib.hid (find0_calls w hD n)
  have HD := Lib.hid hD
  clear hD
  go_enter Tryz.func103, Tryz.ntmps103
  go_wp2_with fail
  refine HF.out.mono ?_
  rintro e w2 ⟨rfl, hB2⟩
  have HB2 := Lib.hid hB2
  have HD2 := Lib.hid (HD.out.below HB2.out)
  have HB3 := Lib.hid (HB2.out.mono HD.out.size)
  clear hB2 HF
  cases hok : nameOk n with
  | false =>
    obtain ⟨h1, h2⟩ := fe_bad L hok
    have hr := Lib.hid (append_bad q (fs L) (b := b) hok)
    rw [h1, h2]
    clear h1 h2 hok
    go_wp2_with fail
    go_ret
    exact ⟨by rw [hr.out]; rfl, HB3.out, L, by rw [hr.out], HD2.out, .of_below HB2.out mb L⟩
  | true =>
    cases hg : get L n with
    | none =>
      obtain ⟨h1, h2⟩ := fe_none hok hg
      have hr := Lib.hid (append_none q (b := b) hok hg)
      rw [h1, h2]
      clear h1 h2 hok hg
      go_wp2_with fail
      go_ret
      exact ⟨by rw [hr.out]; rfl, HB3.out, L, by rw [hr.out], HD2.out, .of_below HB2.out mb L⟩
    | some p =>
      obtain ⟨h1, h2⟩ := fe_some hok hg
      have hfull := Lib.hid (append_full q (b := b) hok hg)
      have hfits := Lib.hid (append_fits q (b := b) hok hg)
      have HG := Lib.hid hg
      have hlow := HD2.out.flow _ (get_mem hg)
      have hlen := HD2.out.len _ (get_mem hg)
      dsimp only at hlen hlow
      have c0 := HD2.out.f0 hg
      have hsb := bs_size b
      have hsf := bs_size p.2.b
      have dw27 : IntKind.i64.wrap (65536 - (p.2.b.length : Int)) = 65536 - (p.2.b.length : Int) := IntWalk.i64_in _ ⟨by omega, by omega⟩
      rw [h1, h2]
      clear h1 h2 hok hg
      by_cases hbig : 65536 < p.2.b.length + b.length
      · have d28 : decide (65536 - (p.2.b.length : Int) < (b.length : Int)) = true := decide_eq_true (by omega)
        have hr := Lib.hid (hfull.out (Or.inl hbig))
        clear hbig hfull hfits
        go_wp2_with fail
        go_quiet (fail)
        go_wp2_with fail
        go_ret
        exact ⟨by rw [hr.out]; rfl, pw_below_drewN HB3.out nq, L, by rw [hr.out], HD2.out.drewN nq, .of_below (pw_below_drewN HB2.out nq) mb L⟩
      · have d28 : decide (65536 - (p.2.b.length : Int) < (b.length : Int)) = false := decide_eq_false (by omega)
        have hroom : used (fs L) ≤ q := HD2.out.ok.room
        have hquo := HD2.out.ok.quota
        have dw38 : IntKind.i64.wrap ((q : Int) - (used (fs L) : Int)) = (q : Int) - (used (fs L) : Int) := IntWalk.i64_in _ ⟨by omega, by omega⟩
        have HUs := Lib.hid (fun (W : World) (h : IsD W base d mb q L) => used_calls W h)
        by_cases hbig2 : q < used (fs L) + b.length
        · have d39 : decide ((q : Int) - (used (fs L) : Int) < (b.length : Int)) = true := decide_eq_true (by omega)
          have hr := Lib.hid (hfull.out (Or.inr hbig2))
          clear hbig hbig2 hfull hfits hroom hquo
          go_wp2_with fail
          refine start_ (n := 22) (S := (fun w' => IsD w' base d mb q L)) (ds := []) #[false, false, false, false, false, false, false, false, false, false, false, false, false, false, false, false, false, false, false, false, false, false] (by kernel_rfl) rfl rfl (HD2.out.below ((Below.refl _ w2).drew)) (fun hHeld => ?_)
          refine pure_ (i := 0) (N := some 20) (v := ?_) (a' := ?_) #[true, false, false, false, false, false, false, false, false, false, false, false, false, false, false, false, false, false, false, false, false, false] rfl rfl (by kernel_rfl) (fun _ _ _ h => h) (Or.inl ⟨by rfl, ?_⟩) ?_ ?_
          rotate_left
          · intro w'
            go_simp
            with_reducible rfl
          rotate_left
          · simp only [Act.put, List.setIfInBounds_toArray, List.set_cons_zero, List.set_cons_succ, i64_w, i32_w]
            rfl
          refine pure_ (i := 1) (N := some 21) (v := ?_) (a' := ?_) #[true, true, false, false, false, false, false, false, false, false, false, false, false, false, false, false, false, false, false, false, false, false] rfl rfl (by kernel_rfl) (fun _ _ _ h => h) (Or.inl ⟨by rfl, ?_⟩) ?_ ?_
          rotate_left
          · intro w'
            go_simp
            with_reducible rfl
          rotate_left
          · simp only [Act.put, List.setIfInBounds_toArray, List.set_cons_zero, List.set_cons_succ, i64_w, i32_w]
            rfl
          refine pure_ (i := 2) (N := some 22) (v := ?_) (a' := ?_) #[true, true, true, false, false, false, false, false, false, false, false, false, false, false, false, false, false, false, false, false, false, false] rfl rfl (by kernel_rfl) (fun _ _ _ h => h) (Or.inl ⟨by rfl, ?_⟩) ?_ ?_
          rotate_left
          · intro w'
            go_simp
            with_reducible rfl
          rotate_left
          · simp only [Act.put, List.setIfInBounds_toArray, List.set_cons_zero, List.set_cons_succ, i64_w, i32_w]
            rfl
          refine pure_ (i := 3) (N := some 23) (v := ?_) (a' := ?_) #[true, true, true, true, false, false, false, false, false, false, false, false, false, false, false, false, false, false, false, false, false, false] rfl rfl (by kernel_rfl) (fun _ _ _ h => h) (Or.inl ⟨by rfl, ?_⟩) ?_ ?_
          rotate_left
          · intro w'
            go_simp
            with_reducible rfl
          rotate_left
          · simp only [Act.put, List.setIfInBounds_toArray, List.set_cons_zero, List.set_cons_succ, i64_w, i32_w]
            rfl
          refine pure_ (i := 4) (N := some 24) (v := ?_) (a' := ?_) #[true, true, true, true, true, false, false, false, false, false, false, false, false, false, false, false, false, false, false, false, false, false] rfl rfl (by kernel_rfl) (fun _ _ _ h => h) (Or.inl ⟨by rfl, ?_⟩) ?_ ?_
          rotate_left
          · intro w'
            go_simp
            with_reducible rfl
          rotate_left
          · simp only [Act.put, List.setIfInBounds_toArray, List.set_cons_zero, List.set_cons_succ, i64_w, i32_w]
            rfl
          refine take_ (i := 5) (N := some 25) (v := ?_) (a' := ?_) #[true, true, true, true, true, true, false, false, false, false, false, false, false, false, false, false, false, false, false, false, false, false] rfl rfl (by kernel_rfl) (fun _ _ _ h => h) (Or.inl ⟨by rfl, ?_⟩) hHeld ?_ ?_
          rotate_left
          · rintro w' hS
            have c0' := hS.f0 HG.out
            go_simp
            with_reducible rfl
          rotate_left
          · simp only [Act.put, List.setIfInBounds_toArray, List.set_cons_zero, List.set_cons_succ, i64_w, i32_w]
            rfl
          refine pure_ (i := 6) (N := some 26) (v := ?_) (a' := ?_) #[true, true, true, true, true, true, true, false, false, false, false, false, false, false, false, false, false, false, false, false, false, false] rfl rfl (by kernel_rfl) (fun _ _ _ h => h) (Or.inl ⟨by rfl, ?_⟩) ?_ ?_
          rotate_left
          · intro w'
            go_simp
            with_reducible rfl
          rotate_left
          · simp only [Act.put, List.setIfInBounds_toArray, List.set_cons_zero, List.set_cons_succ, i64_w, i32_w]
            rfl
          refine pure_ (i := 7) (N := some 27) (v := ?_) (a' := ?_) #[true, true, true, true, true, true, true, true, false, false, false, false, false, false, false, false, false, false, false, false, false, false] rfl rfl (by kernel_rfl) (fun _ _ _ h => h) (Or.inl ⟨by rfl, ?_⟩) ?_ ?_
          rotate_left
          · intro w'
            go_simp
            with_reducible rfl
          rotate_left
          · simp only [Act.put, List.setIfInBounds_toArray, List.set_cons_zero, List.set_cons_succ, i64_w, i32_w]
            rfl
          refine pure_ (i := 8) (N := some 28) (v := ?_) (a' := ?_) #[true, true, true, true, true, true, true, true, true, false, false, false, false, false, false, false, false, false, false, false, false, false] rfl rfl (by kernel_rfl) (fun _ _ _ h => h) (Or.inl ⟨by rfl, ?_⟩) ?_ ?_
          rotate_left
          · intro w'
            go_simp
            with_reducible rfl
          rotate_left
          · simp only [Act.put, List.setIfInBounds_toArray, List.set_cons_zero, List.set_cons_succ, i64_w, i32_w]
            rfl
          refine pure_ (i := 9) (N := some 29) (v := ?_) (a' := ?_) #[true, true, true, true, true, true, true, true, true, true, false, false, false, false, false, false, false, false, false, false, false, false] rfl rfl (by kernel_rfl) (fun _ _ _ h => h) (Or.inl ⟨by rfl, ?_⟩) ?_ ?_
          rotate_left
          · intro w'
            go_simp
            with_reducible rfl
          rotate_left
          · simp only [Act.put, List.setIfInBounds_toArray, List.set_cons_zero, List.set_cons_succ, i64_w, i32_w]
            rfl
          refine pure_ (i := 10) (N := some 30) (v := ?_) (a' := ?_) #[true, true, true, true, true, true, true, true, true, true, true, false, false, false, false, false, false, false, false, false, false, false] rfl rfl (by kernel_rfl) (fun _ _ _ h => h) (Or.inl ⟨by rfl, ?_⟩) ?_ ?_
          rotate_left
          · intro w'
            go_simp
            with_reducible rfl
          rotate_left
          · simp only [Act.put, List.setIfInBounds_toArray, List.set_cons_zero, List.set_cons_succ, i64_w, i32_w]
            rfl
          refine pure_ (i := 11) (N := some 31) (v := ?_) (a' := ?_) #[true, true, true, true, true, true, true, true, true, true, true, true, false, false, false, false, false, false, false, false, false, false] rfl rfl (by kernel_rfl) (fun _ _ _ h => h) (Or.inl ⟨by rfl, ?_⟩) ?_ ?_
          rotate_left
          · intro w'
            go_simp
            with_reducible rfl
          rotate_left
          · simp only [Act.put, List.setIfInBounds_toArray, List.set_cons_zero, List.set_cons_succ, i64_w, i32_w]
            rfl
          refine pure_ (i := 12) (N := some 32) (v := ?_) (a' := ?_) #[true, true, true, true, true, true, true, true, true, true, true, true, true, false, false, false, false, false, false, false, false, false] rfl rfl (by kernel_rfl) (fun _ _ _ h => h) (Or.inl ⟨by rfl, ?_⟩) ?_ ?_
          rotate_left
          · intro w'
            go_simp
            with_reducible rfl
          rotate_left
          · simp only [Act.put, List.setIfInBounds_toArray, List.set_cons_zero, List.set_cons_succ, i64_w, i32_w]
            rfl
          refine pure_ (i := 13) (N := some 33) (v := ?_) (a' := ?_) #[true, true, true, true, true, true, true, true, true, true, true, true, true, true, false, false, false, false, false, false, false, false] rfl rfl (by kernel_rfl) (fun _ _ _ h => h) (Or.inl ⟨by rfl, ?_⟩) ?_ ?_
          rotate_left
          · intro w'
            go_simp
            with_reducible rfl
          rotate_left
          · simp only [Act.put, List.setIfInBounds_toArray, List.set_cons_zero, List.set_cons_succ, i64_w, i32_w]
            rfl
          refine pure_ (i := 14) (N := some 34) (v := ?_) (a' := ?_) #[true, true, true, true, true, true, true, true, true, true, true, true, true, true, true, false, false, false, false, false, false, false] rfl rfl (by kernel_rfl) (fun _ _ _ h => h) (Or.inl ⟨by rfl, ?_⟩) ?_ ?_
          rotate_left
          · intro w'
            go_simp
            with_reducible rfl
          rotate_left
          · simp only [Act.put, List.setIfInBounds_toArray, List.set_cons_zero, List.set_cons_succ, i64_w, i32_w]
            rfl
          refine take_ (i := 15) (N := some 35) (v := ?_) (a' := ?_) #[true, true, true, true, true, true, true, true, true, true, true, true, true, true, true, true, false, false, false, false, false, false] rfl rfl (by kernel_rfl) (fun _ _ _ h => h) (Or.inl ⟨by rfl, ?_⟩) hHeld ?_ ?_
          rotate_left
          · rintro w' hS
            have q0' := hS.q0
            go_simp
            with_reducible rfl
          rotate_left
          · simp only [Act.put, List.setIfInBounds_toArray, List.set_cons_zero, List.set_cons_succ, i64_w, i32_w]
            rfl
          refine pure_ (i := 16) (N := some 36) (v := ?_) (a' := ?_) #[true, true, true, true, true, true, true, true, true, true, true, true, true, true, true, true, true, false, false, false, false, false] rfl rfl (by kernel_rfl) (fun _ _ _ h => h) (Or.inl ⟨by rfl, ?_⟩) ?_ ?_
          rotate_left
          · intro w'
            go_simp
            with_reducible rfl
          rotate_left
          · simp only [Act.put, List.setIfInBounds_toArray, List.set_cons_zero, List.set_cons_succ, i64_w, i32_w]
            rfl
          refine one_ (i := 17) (N := some 37) #[true, true, true, true, true, true, true, true, true, true, true, true, true, true, true, true, true, true, false, false, false, false] rfl rfl (by kernel_rfl) (by decide) (fun K hK => ?_)
          refine goes_ Tryz.func134 (by kernel_rfl) rfl #[.pointer (some ⟨d, 0, none⟩)] (by rfl) rfl rfl (by simp only [List.map_toArray, List.map_cons, List.map_nil]; rfl) ?_
          refine (HUs.out _ hHeld).mono ?_
          rintro e w5 ⟨rfl, hB5⟩
          have HB5 := Lib.hid ((HB3.out.drew).trans (hB5.mono (show base ≤ w2.drew.heap.size from HD2.out.size)))
          have HD5 := Lib.hid (hHeld.below hB5)
          have HT5 := Lib.hid ((Turn.of_below (HB2.out.drew) mb L).then_below hB5)
          clear hB5
          refine ⟨_, rfl, ?_⟩
          refine hK.out _ _ HD5.out (fun hHeld => ?_)
          clear hK K
          refine norm_ (a' := ?_) ?_ ?_
          rotate_left
          · show Act.put _ (some 37) _ = _
            simp only [Act.put, List.setIfInBounds_toArray, List.set_cons_zero, List.set_cons_succ, i64_w, i32_w]
            rfl
          refine pure_ (i := 18) (N := some 38) (v := ?_) (a' := ?_) #[true, true, true, true, true, true, true, true, true, true, true, true, true, true, true, true, true, true, true, false, false, false] rfl rfl (by kernel_rfl) (fun _ _ _ h => h) (Or.inl ⟨by rfl, ?_⟩) ?_ ?_
          rotate_left
          · intro w'
            go_simp
            with_reducible rfl
          rotate_left
          · simp only [Act.put, List.setIfInBounds_toArray, List.set_cons_zero, List.set_cons_succ, i64_w, i32_w]
            rfl
          refine pure_ (i := 19) (N := some 39) (v := ?_) (a' := ?_) #[true, true, true, true, true, true, true, true, true, true, true, true, true, true, true, true, true, true, true, true, false, false] rfl rfl (by kernel_rfl) (fun _ _ _ h => h) (Or.inl ⟨by rfl, ?_⟩) ?_ ?_
          rotate_left
          · intro w'
            go_simp
            with_reducible rfl
          rotate_left
          · simp only [Act.put, List.setIfInBounds_toArray, List.set_cons_zero, List.set_cons_succ, i64_w, i32_w]
            rfl
          refine pure_ (i := 20) (N := some 40) (v := ?_) (a' := ?_) #[true, true, true, true, true, true, true, true, true, true, true, true, true, true, true, true, true, true, true, true, true, false] rfl rfl (by kernel_rfl) (fun _ _ _ h => h) (Or.inl ⟨by rfl, ?_⟩) ?_ ?_
          rotate_left
          · intro w'
            go_simp
            with_reducible rfl
          rotate_left
          · simp only [Act.put, List.setIfInBounds_toArray, List.set_cons_zero, List.set_cons_succ, i64_w, i32_w]
            rfl
          refine pure_ (i := 21) (N := some 19) (v := ?_) (a' := ?_) #[true, true, true, true, true, true, true, true, true, true, true, true, true, true, true, true, true, true, true, true, true, true] rfl rfl (by kernel_rfl) (fun _ _ _ h => h) (Or.inl ⟨by rfl, ?_⟩) ?_ ?_
          rotate_left
          · intro w'
            go_simp
            with_reducible rfl
          rotate_left
          · simp only [Act.put, List.setIfInBounds_toArray, List.set_cons_zero, List.set_cons_succ, i64_w, i32_w]
            rfl
          refine done_ (by kernel_rfl) ?_
          go_wp2_with fail
          go_ret
          exact ⟨by rw [hr.out]; rfl, HB5.out, L, by rw [hr.out], HD5.out, HT5.out⟩
        · have d39 : decide ((q : Int) - (used (fs L) : Int) < (b.length : Int)) = false := decide_eq_false (by omega)
          have hr := Lib.hid (hfits.out (by omega))
          have hcat : ¬ 9223372036854775807 < (bs p.2.b).size + (bs b).size := by omega
          have hjoin : bs p.2.b ++ bs b = bs (p.2.b ++ b) := bs_append _ _
          clear hbig hbig2 hfull hfits hroom hquo
          go_wp2_with fail
          refine start_ (n := 22) (S := (fun w' => IsD w' base d mb q L)) (ds := []) #[false, false, false, false, false, false, false, false, false, false, false, false, false, false, false, false, false, false, false, false, false, false] (by kernel_rfl) rfl rfl (HD2.out.below ((Below.refl _ w2).drew)) (fun hHeld => ?_)
          refine pure_ (i := 0) (N := some 20) (v := ?_) (a' := ?_) #[true, false, false, false, false, false, false, false, false, false, false, false, false, false, false, false, false, false, false, false, false, false] rfl rfl (by kernel_rfl) (fun _ _ _ h => h) (Or.inl ⟨by rfl, ?_⟩) ?_ ?_
          rotate_left
          · intro w'
            go_simp
            with_reducible rfl
          rotate_left
          · simp only [Act.put, List.setIfInBounds_toArray, List.set_cons_zero, List.set_cons_succ, i64_w, i32_w]
            rfl
          refine pure_ (i := 1) (N := some 21) (v := ?_) (a' := ?_) #[true, true, false, false, false, false, false, false, false, false, false, false, false, false, false, false, false, false, false, false, false, false] rfl rfl (by kernel_rfl) (fun _ _ _ h => h) (Or.inl ⟨by rfl, ?_⟩) ?_ ?_
          rotate_left
          · intro w'
            go_simp
            with_reducible rfl
          rotate_left
          · simp only [Act.put, List.setIfInBounds_toArray, List.set_cons_zero, List.set_cons_succ, i64_w, i32_w]
            rfl
          refine pure_ (i := 2) (N := some 22) (v := ?_) (a' := ?_) #[true, true, true, false, false, false, false, false, false, false, false, false, false, false, false, false, false, false, false, false, false, false] rfl rfl (by kernel_rfl) (fun _ _ _ h => h) (Or.inl ⟨by rfl, ?_⟩) ?_ ?_
          rotate_left
          · intro w'
            go_simp
            with_reducible rfl
          rotate_left
          · simp only [Act.put, List.setIfInBounds_toArray, List.set_cons_zero, List.set_cons_succ, i64_w, i32_w]
            rfl
          refine pure_ (i := 3) (N := some 23) (v := ?_) (a' := ?_) #[true, true, true, true, false, false, false, false, false, false, false, false, false, false, false, false, false, false, false, false, false, false] rfl rfl (by kernel_rfl) (fun _ _ _ h => h) (Or.inl ⟨by rfl, ?_⟩) ?_ ?_
          rotate_left
          · intro w'
            go_simp
            with_reducible rfl
          rotate_left
          · simp only [Act.put, List.setIfInBounds_toArray, List.set_cons_zero, List.set_cons_succ, i64_w, i32_w]
            rfl
          refine pure_ (i := 4) (N := some 24) (v := ?_) (a' := ?_) #[true, true, true, true, true, false, false, false, false, false, false, false, false, false, false, false, false, false, false, false, false, false] rfl rfl (by kernel_rfl) (fun _ _ _ h => h) (Or.inl ⟨by rfl, ?_⟩) ?_ ?_
          rotate_left
          · intro w'
            go_simp
            with_reducible rfl
          rotate_left
          · simp only [Act.put, List.setIfInBounds_toArray, List.set_cons_zero, List.set_cons_succ, i64_w, i32_w]
            rfl
          refine take_ (i := 5) (N := some 25) (v := ?_) (a' := ?_) #[true, true, true, true, true, true, false, false, false, false, false, false, false, false, false, false, false, false, false, false, false, false] rfl rfl (by kernel_rfl) (fun _ _ _ h => h) (Or.inl ⟨by rfl, ?_⟩) hHeld ?_ ?_
          rotate_left
          · rintro w' hS
            have c0' := hS.f0 HG.out
            go_simp
            with_reducible rfl
          rotate_left
          · simp only [Act.put, List.setIfInBounds_toArray, List.set_cons_zero, List.set_cons_succ, i64_w, i32_w]
            rfl
          refine pure_ (i := 6) (N := some 26) (v := ?_) (a' := ?_) #[true, true, true, true, true, true, true, false, false, false, false, false, false, false, false, false, false, false, false, false, false, false] rfl rfl (by kernel_rfl) (fun _ _ _ h => h) (Or.inl ⟨by rfl, ?_⟩) ?_ ?_
          rotate_left
          · intro w'
            go_simp
            with_reducible rfl
          rotate_left
          · simp only [Act.put, List.setIfInBounds_toArray, List.set_cons_zero, List.set_cons_succ, i64_w, i32_w]
            rfl
          refine pure_ (i := 7) (N := some 27) (v := ?_) (a' := ?_) #[true, true, true, true, true, true, true, true, false, false, false, false, false, false, false, false, false, false, false, false, false, false] rfl rfl (by kernel_rfl) (fun _ _ _ h => h) (Or.inl ⟨by rfl, ?_⟩) ?_ ?_
          rotate_left
          · intro w'
            go_simp
            with_reducible rfl
          rotate_left
          · simp only [Act.put, List.setIfInBounds_toArray, List.set_cons_zero, List.set_cons_succ, i64_w, i32_w]
            rfl
          refine pure_ (i := 8) (N := some 28) (v := ?_) (a' := ?_) #[true, true, true, true, true, true, true, true, true, false, false, false, false, false, false, false, false, false, false, false, false, false] rfl rfl (by kernel_rfl) (fun _ _ _ h => h) (Or.inl ⟨by rfl, ?_⟩) ?_ ?_
          rotate_left
          · intro w'
            go_simp
            with_reducible rfl
          rotate_left
          · simp only [Act.put, List.setIfInBounds_toArray, List.set_cons_zero, List.set_cons_succ, i64_w, i32_w]
            rfl
          refine pure_ (i := 9) (N := some 29) (v := ?_) (a' := ?_) #[true, true, true, true, true, true, true, true, true, true, false, false, false, false, false, false, false, false, false, false, false, false] rfl rfl (by kernel_rfl) (fun _ _ _ h => h) (Or.inl ⟨by rfl, ?_⟩) ?_ ?_
          rotate_left
          · intro w'
            go_simp
            with_reducible rfl
          rotate_left
          · simp only [Act.put, List.setIfInBounds_toArray, List.set_cons_zero, List.set_cons_succ, i64_w, i32_w]
            rfl
          refine pure_ (i := 10) (N := some 30) (v := ?_) (a' := ?_) #[true, true, true, true, true, true, true, true, true, true, true, false, false, false, false, false, false, false, false, false, false, false] rfl rfl (by kernel_rfl) (fun _ _ _ h => h) (Or.inl ⟨by rfl, ?_⟩) ?_ ?_
          rotate_left
          · intro w'
            go_simp
            with_reducible rfl
          rotate_left
          · simp only [Act.put, List.setIfInBounds_toArray, List.set_cons_zero, List.set_cons_succ, i64_w, i32_w]
            rfl
          refine pure_ (i := 11) (N := some 31) (v := ?_) (a' := ?_) #[true, true, true, true, true, true, true, true, true, true, true, true, false, false, false, false, false, false, false, false, false, false] rfl rfl (by kernel_rfl) (fun _ _ _ h => h) (Or.inl ⟨by rfl, ?_⟩) ?_ ?_
          rotate_left
          · intro w'
            go_simp
            with_reducible rfl
          rotate_left
          · simp only [Act.put, List.setIfInBounds_toArray, List.set_cons_zero, List.set_cons_succ, i64_w, i32_w]
            rfl
          refine pure_ (i := 12) (N := some 32) (v := ?_) (a' := ?_) #[true, true, true, true, true, true, true, true, true, true, true, true, true, false, false, false, false, false, false, false, false, false] rfl rfl (by kernel_rfl) (fun _ _ _ h => h) (Or.inl ⟨by rfl, ?_⟩) ?_ ?_
          rotate_left
          · intro w'
            go_simp
            with_reducible rfl
          rotate_left
          · simp only [Act.put, List.setIfInBounds_toArray, List.set_cons_zero, List.set_cons_succ, i64_w, i32_w]
            rfl
          refine pure_ (i := 13) (N := some 33) (v := ?_) (a' := ?_) #[true, true, true, true, true, true, true, true, true, true, true, true, true, true, false, false, false, false, false, false, false, false] rfl rfl (by kernel_rfl) (fun _ _ _ h => h) (Or.inl ⟨by rfl, ?_⟩) ?_ ?_
          rotate_left
          · intro w'
            go_simp
            with_reducible rfl
          rotate_left
          · simp only [Act.put, List.setIfInBounds_toArray, List.set_cons_zero, List.set_cons_succ, i64_w, i32_w]
            rfl
          refine pure_ (i := 14) (N := some 34) (v := ?_) (a' := ?_) #[true, true, true, true, true, true, true, true, true, true, true, true, true, true, true, false, false, false, false, false, false, false] rfl rfl (by kernel_rfl) (fun _ _ _ h => h) (Or.inl ⟨by rfl, ?_⟩) ?_ ?_
          rotate_left
          · intro w'
            go_simp
            with_reducible rfl
          rotate_left
          · simp only [Act.put, List.setIfInBounds_toArray, List.set_cons_zero, List.set_cons_succ, i64_w, i32_w]
            rfl
          refine take_ (i := 15) (N := some 35) (v := ?_) (a' := ?_) #[true, true, true, true, true, true, true, true, true, true, true, true, true, true, true, true, false, false, false, false, false, false] rfl rfl (by kernel_rfl) (fun _ _ _ h => h) (Or.inl ⟨by rfl, ?_⟩) hHeld ?_ ?_
          rotate_left
          · rintro w' hS
            have q0' := hS.q0
            go_simp
            with_reducible rfl
          rotate_left
          · simp only [Act.put, List.setIfInBounds_toArray, List.set_cons_zero, List.set_cons_succ, i64_w, i32_w]
            rfl
          refine pure_ (i := 16) (N := some 36) (v := ?_) (a' := ?_) #[true, true, true, true, true, true, true, true, true, true, true, true, true, true, true, true, true, false, false, false, false, false] rfl rfl (by kernel_rfl) (fun _ _ _ h => h) (Or.inl ⟨by rfl, ?_⟩) ?_ ?_
          rotate_left
          · intro w'
            go_simp
            with_reducible rfl
          rotate_left
          · simp only [Act.put, List.setIfInBounds_toArray, List.set_cons_zero, List.set_cons_succ, i64_w, i32_w]
            rfl
          refine one_ (i := 17) (N := some 37) #[true, true, true, true, true, true, true, true, true, true, true, true, true, true, true, true, true, true, false, false, false, false] rfl rfl (by kernel_rfl) (by decide) (fun K hK => ?_)
          refine goes_ Tryz.func134 (by kernel_rfl) rfl #[.pointer (some ⟨d, 0, none⟩)] (by rfl) rfl rfl (by simp only [List.map_toArray, List.map_cons, List.map_nil]; rfl) ?_
          refine (HUs.out _ hHeld).mono ?_
          rintro e w5 ⟨rfl, hB5⟩
          have HB5 := Lib.hid ((HB3.out.drew).trans (hB5.mono (show base ≤ w2.drew.heap.size from HD2.out.size)))
          have HD5 := Lib.hid (hHeld.below hB5)
          have HT5 := Lib.hid ((Turn.of_below (HB2.out.drew) mb L).then_below hB5)
          clear hB5
          refine ⟨_, rfl, ?_⟩
          refine hK.out _ _ HD5.out (fun hHeld => ?_)
          clear hK K
          refine norm_ (a' := ?_) ?_ ?_
          rotate_left
          · show Act.put _ (some 37) _ = _
            simp only [Act.put, List.setIfInBounds_toArray, List.set_cons_zero, List.set_cons_succ, i64_w, i32_w]
            rfl
          refine pure_ (i := 18) (N := some 38) (v := ?_) (a' := ?_) #[true, true, true, true, true, true, true, true, true, true, true, true, true, true, true, true, true, true, true, false, false, false] rfl rfl (by kernel_rfl) (fun _ _ _ h => h) (Or.inl ⟨by rfl, ?_⟩) ?_ ?_
          rotate_left
          · intro w'
            go_simp
            with_reducible rfl
          rotate_left
          · simp only [Act.put, List.setIfInBounds_toArray, List.set_cons_zero, List.set_cons_succ, i64_w, i32_w]
            rfl
          refine pure_ (i := 19) (N := some 39) (v := ?_) (a' := ?_) #[true, true, true, true, true, true, true, true, true, true, true, true, true, true, true, true, true, true, true, true, false, false] rfl rfl (by kernel_rfl) (fun _ _ _ h => h) (Or.inl ⟨by rfl, ?_⟩) ?_ ?_
          rotate_left
          · intro w'
            go_simp
            with_reducible rfl
          rotate_left
          · simp only [Act.put, List.setIfInBounds_toArray, List.set_cons_zero, List.set_cons_succ, i64_w, i32_w]
            rfl
          refine pure_ (i := 20) (N := some 40) (v := ?_) (a' := ?_) #[true, true, true, true, true, true, true, true, true, true, true, true, true, true, true, true, true, true, true, true, true, false] rfl rfl (by kernel_rfl) (fun _ _ _ h => h) (Or.inl ⟨by rfl, ?_⟩) ?_ ?_
          rotate_left
          · intro w'
            go_simp
            with_reducible rfl
          rotate_left
          · simp only [Act.put, List.setIfInBounds_toArray, List.set_cons_zero, List.set_cons_succ, i64_w, i32_w]
            rfl
          refine pure_ (i := 21) (N := some 19) (v := ?_) (a' := ?_) #[true, true, true, true, true, true, true, true, true, true, true, true, true, true, true, true, true, true, true, true, true, true] rfl rfl (by kernel_rfl) (fun _ _ _ h => h) (Or.inl ⟨by rfl, ?_⟩) ?_ ?_
          rotate_left
          · intro w'
            go_simp
            with_reducible rfl
          rotate_left
          · simp only [Act.put, List.setIfInBounds_toArray, List.set_cons_zero, List.set_cons_succ, i64_w, i32_w]
            rfl
          refine done_ (by kernel_rfl) ?_
          have c5 := HD5.out.f0 HG.out
          have hfr := blk_frozen (HD5.out.file _ (get_mem HG.out)) 0
          go_wp2_with fail
          go_ret
          refine ⟨by rw [hr.out]; rfl, HB5.out.setCell hlow _, upd L n (fun x => (x.1, ⟨x.2.b ++ b, x.2.s⟩)), ?_, ?_⟩
          · rw [hr.out]; exact fs_upd L n (fun f => ⟨f.b ++ b, f.s⟩)
          · have hk := HD5.out.ok.append n b
            have hsy : append q (fs L) n b = (upd (fs L) n (fun f => ⟨f.b ++ b, f.s⟩), 0) := hr.out
            rw [hsy] at hk
            refine ⟨HD5.out.turn HG.out (fun f => ⟨f.b ++ b, f.s⟩) (set_file0 (HD5.out.file _ (get_mem HG.out)) _) (fun k hk => Below.heap_setCell _ _ _ _ hk) hk, ?_⟩
            exact (HT5.out.upd n (fun f => ⟨f.b ++ b, f.s⟩)).set ⟨_, turned_mem HG.out (fun f => ⟨f.b ++ b, f.s⟩), rfl⟩ _ _
end Go.Proofs.YtbffgpfkgmhmhaaGreatDoor.Dw
/- The chapter's disk: some, torn, works (functions 27, 28, 8). -/
set_option linter.unusedVariables false
set_option linter.unusedSimpArgs false
namespace Go.Proofs.YtbffgpfkgmhmhaaGreatDoor.Dw
open Go.RowKit Go.Maps Go.Proofs.YtbffgpfkgmhmhaaGreatDoorW.PrintWords Go.Proofs.YtbffgpfkgmhmhaaGreatDoorW.PrintLast Go.Proofs.YtbffgpfkgmhmhaaGreatDoorW.PrintMore Go.Proofs.Dk
set_option maxRecDepth 100000
/-- A row of numbers that came in. -/
def Nums (w : World) (A : Option Addr) (l : List Int) : Prop := ∀ (j : Nat) (h : j < l.length), ∃ ad, A = some ad ∧ w.cell? (ad.add j) = some (.int .i64 l[j])
theorem cell_lt {w : World} {a : Addr} {v : Value} (h : w.cell? a = some v) : a.block < w.heap.size := by
  rcases Nat.lt_or_ge a.block w.heap.size with h1 | h1
  · exact h1
  · exfalso
    unfold World.cell? at h
    rw [Array.getElem?_eq_none h1] at h
    simp at h
theorem add_block (a : Addr) (j : Nat) : (a.add j).block = a.block := by unfold Addr.add; split <;> rfl
end Go.Proofs.YtbffgpfkgmhmhaaGreatDoor.Dw
/- sync/atomic, sync.Mutex, sync.Once at this program (functions 42, 49, 61, 62, 80, 78, 79, 63, 47). -/
set_option linter.unusedVariables false
set_option linter.unusedSimpArgs false
namespace Go.Proofs.YtbffgpfkgmhmhaaGreatDoor.Dw
open Go.RowKit Go.Maps Go.Proofs.YtbffgpfkgmhmhaaGreatDoorW.PrintWords Go.Proofs.YtbffgpfkgmhmhaaGreatDoorW.PrintLast Go.Proofs.YtbffgpfkgmhmhaaGreatDoorW.PrintMore Go.Proofs.Dk
set_option maxRecDepth 100000
theorem aload_calls (w : World) (a : Addr) (v : Int) (hc : w.cell? a = some (.int .i64 v)) : Calls Tryz.prog 83 #[.pointer (some a)] w fun e w' => e = .returned (.int .i64 v) ∧ w' = w := by
  have hl := run_call_load (P := Tryz.prog) Tryz.func121 (by kernel_rfl) (by kernel_rfl) (by kernel_rfl) .i64 (by kernel_rfl) hc
  go_enter Tryz.func83, Tryz.ntmps83
  go_wp2
  go_ret
  exact ⟨rfl, rfl⟩
theorem astore_calls (w : World) (a : Addr) (v : Int) {x : Value} (hc : w.cell? a = some x) (hz : w.frozen? a = false) : Calls Tryz.prog 71 #[.pointer (some a), .int .i64 v] w fun e w' => e = .returned (.tuple #[]) ∧ w' = w.setCell a (.int .i64 v) := by
  have hst := run_call_store (P := Tryz.prog) Tryz.func109 (by kernel_rfl) (by kernel_rfl) (by kernel_rfl) (by kernel_rfl) (k := .i64) (y := v) hc hz
  go_enter Tryz.func71, Tryz.ntmps71
  go_wp2
  go_end0
  exact ⟨rfl, rfl⟩
theorem aadd_calls (w : World) (a : Addr) (v s : Int) (hc : w.cell? a = some (.int .i64 v)) (hz : w.frozen? a = false) (hs : IntKind.i64.wrap (v + 1) = s) : Calls Tryz.prog 106 #[.pointer (some a), .int .i64 1] w fun e w' => e = .returned (.int .i64 s) ∧ w' = w.setCell a (.int .i64 s) := by
  have hadd := run_call_add (P := Tryz.prog) Tryz.func140 (by kernel_rfl) (by kernel_rfl) (by kernel_rfl) .i64 (by kernel_rfl) (y := 1) (s := s) hc hz (by simp [go_sem]; rw [← hs])
  go_enter Tryz.func106, Tryz.ntmps106
  go_wp2
  go_ret
  exact ⟨rfl, rfl⟩
theorem disable (w : World) : (callFunc 183 #[]).run Tryz.prog w = .ok (.value (.tuple #[])) w := run_call_mark0 Tryz.func183 (by kernel_rfl) (by kernel_rfl) (by kernel_rfl) .disable (by kernel_rfl) w
theorem enable (w : World) : (callFunc 185 #[]).run Tryz.prog w = .ok (.value (.tuple #[])) w := run_call_mark0 Tryz.func185 (by kernel_rfl) (by kernel_rfl) (by kernel_rfl) .enable (by kernel_rfl) w
theorem acquire (a : Addr) (w : World) : (callFunc 186 #[.pointer (some a)]).run Tryz.prog w = .ok (.value (.tuple #[])) w := run_call_marked Tryz.func186 (by kernel_rfl) (by kernel_rfl) (by kernel_rfl) .acquire (by kernel_rfl) a w
theorem releaseMerge (a : Addr) (w : World) : (callFunc 188 #[.pointer (some a)]).run Tryz.prog w = .ok (.value (.tuple #[])) w := run_call_marked Tryz.func188 (by kernel_rfl) (by kernel_rfl) (by kernel_rfl) .releaseMerge (by kernel_rfl) a w
/-- '(*sync/atomic.Bool).Store(true)', entered as a deferred call: the cell holds 1. -/
theorem store_deferred (a : Addr) (x : Value) (u : FrameMode) (w : World) (hc : w.cell? a = some x) (hz : w.frozen? a = false) :
    CallsD Tryz.prog 144 #[.pointer (some a), .bool true] u w fun e u' w' => u' = u ∧ (e = .returned (.tuple #[]) ∧ w' = w.drew.setCell a (.int .u32 1)) := by
  have hc' : w.drew.cell? a = some x := by go_simp
  have hz' : w.drew.frozen? a = false := by go_simp
  have hst := run_call_store (P := Tryz.prog) Tryz.func163 (by kernel_rfl) (by kernel_rfl) (by kernel_rfl) (by kernel_rfl) (k := .u32) (y := 1) hc' hz'
  go_enter_d Tryz.func144, Tryz.ntmps144
  go_wp2
  go_region_calls
  all_goals (go_end0; exact ⟨rfl, rfl⟩)
/-- '(*sync.Mutex).Unlock', entered as a deferred call, the lock held and nobody waiting (state 1): state 0. -/
theorem unlock_deferred (a : Addr) (u : FrameMode) (w : World) (hc : w.cell? a = some (.int .i32 1)) (hz : w.frozen? a = false) :
    CallsD Tryz.prog 143 #[.pointer (some a)] u w fun e u' w' => u' = u ∧ (e = .returned (.tuple #[]) ∧ w' = w.setCell a (.int .i32 0)) := by
  have hd := disable
  have he := enable
  have hr := releaseMerge
  have hadd := run_call_add (P := Tryz.prog) Tryz.func189 (by kernel_rfl) (by kernel_rfl) (by kernel_rfl) .i32 (by kernel_rfl) (y := -1) (s := 0) hc hz (by simp [go_sem]; rfl)
  have hcv := run_convert_to_unsafe (P := Tryz.prog) (src := 256) (dst := 200) Tryz.underlying256 Tryz.underlying200 (by kernel_rfl) hc
  go_enter_d Tryz.func143, Tryz.ntmps143
  go_wp2
  go_end0
  go_wp2
  go_end0
  exact ⟨rfl, rfl⟩
/-- '(*sync.Mutex).Lock', the lock free (state 0): state 1. -/
theorem lock_free (a : Addr) (w : World) (hc : w.cell? a = some (.int .i32 0)) (hz : w.frozen? a = false) :
    Calls Tryz.prog 142 #[.pointer (some a)] w fun e w' => e = .returned (.tuple #[]) ∧ w' = w.setCell a (.int .i32 1) := by
  have hd := disable
  have he := enable
  have ha := acquire
  have hcas := run_call_cas_hit (P := Tryz.prog) Tryz.func184 (by kernel_rfl) (by kernel_rfl) (by kernel_rfl) .i32 (by kernel_rfl) (y := 1) hc hz
  have hc' : (w.setCell a (.int .i32 1)).cell? a = some (.int .i32 1) := World.cell?_setCell_same w a _ hc
  have hcv := run_convert_to_unsafe (P := Tryz.prog) (src := 256) (dst := 200) Tryz.underlying256 Tryz.underlying200 (by kernel_rfl) hc'
  go_enter Tryz.func142, Tryz.ntmps142
  go_wp2
  first | go_end0 | (simp only [Exit.inBlock, Exit.then]; refine bodyPost_ret (results_none rfl _ _ _) rfl ?_) | refine bodyPost_ret (results_none rfl _ _ _) rfl ?_
  go_wp2
  go_end0
  exact ⟨rfl, rfl⟩
end Go.Proofs.YtbffgpfkgmhmhaaGreatDoor.Dw
/- sync.Once at this program: doSlow, Do (functions 63, 47), the function that it is given told by its contract. -/
set_option linter.unusedVariables false
set_option linter.unusedSimpArgs false
namespace Go.Proofs.YtbffgpfkgmhmhaaGreatDoor.Dw
open Go.RowKit Go.Maps Go.Proofs.YtbffgpfkgmhmhaaGreatDoorW.PrintWords Go.Proofs.YtbffgpfkgmhmhaaGreatDoorW.PrintLast Go.Proofs.YtbffgpfkgmhmhaaGreatDoorW.PrintMore Go.Proofs.Dk
set_option maxRecDepth 100000
theorem bload_calls (w : World) (a : Addr) (v : Int) (b : Bool) (hv : decide (v = 0) = !b) (hc : w.cell? a = some (.int .u32 v)) : Calls Tryz.prog 107 #[.pointer (some a)] w fun e w' => e = .returned (.bool b) ∧ w' = w := by
  have hl := run_call_load (P := Tryz.prog) Tryz.func141 (by kernel_rfl) (by kernel_rfl) (by kernel_rfl) .u32 (by kernel_rfl) hc
  have hb : (v != 0) = b := by cases b <;> simp_all
  go_enter Tryz.func107, Tryz.ntmps107
  go_wp2
  go_ret
  exact ⟨rfl, rfl⟩
set_option maxHeartbeats 1600000 in
theorem slow_calls (b o : Nat) (x0 : Addr) (w : World) (R : World → Prop) (h0 : w.cell? ⟨b, o, none⟩ = some (.int .u32 0)) (h1 : w.cell? ⟨b, o + 1, none⟩ = some (.int .i32 0)) (f1 : w.frozen? ⟨b, o + 1, none⟩ = false)
    (hF : Calls Tryz.prog 69 #[.pointer (some x0)] (w.setCell ⟨b, o + 1, none⟩ (.int .i32 1)) fun e w1 => (∃ v, e = .returned v) ∧ R w1)
    (hR : ∀ w1, R w1 → w1.cell? ⟨b, o, none⟩ = some (.int .u32 0) ∧ w1.cell? ⟨b, o + 1, none⟩ = some (.int .i32 1) ∧ w1.frozen? ⟨b, o, none⟩ = false ∧ w1.frozen? ⟨b, o + 1, none⟩ = false) :
    Calls Tryz.prog 108 #[.pointer (some ⟨b, o, none⟩), .func (.func 69) #[] #[.pointer (some x0)]] w fun e w' => e = .returned (.tuple #[]) ∧
      ∃ w1, R w1 ∧ w' = (w1.drew.setCell ⟨b, o, none⟩ (.int .u32 1)).setCell ⟨b, o + 1, none⟩ (.int .i32 0) := by
  have h0' : (w.setCell ⟨b, o + 1, none⟩ (.int .i32 1)).cell? ⟨b, o, none⟩ = some (.int .u32 0) := (World.cell?_setCell_other _ ⟨b, o + 1, none⟩ ⟨b, o, none⟩ _ (by simp)).trans h0
  go_enter_defers Tryz.func108, Tryz.ntmps108
  go_wp2_with (first | (go_at_call 142; refine (lock_free ⟨b, o + 1, none⟩ _ (by go_simp) (by go_simp)).mono ?_; rintro e w' ⟨rfl, rfl⟩) | (go_at_call 107; refine (bload_calls _ ⟨b, o, none⟩ 0 false rfl h0').mono ?_; rintro e w' ⟨rfl, hw'⟩; obtain rfl := hw'.symm) | (go_at_call 69; refine hF.mono ?_; rintro e w1 ⟨⟨v, rfl⟩, hw1⟩; obtain ⟨q0, q1, g0, g1⟩ := hR _ hw1))
  refine leaves_cons (f := 144) (args := #[.pointer (some ⟨b, o, none⟩), .bool true]) (by simp) (by simp [go_sem]) ?_
  refine (store_deferred ⟨b, o, none⟩ (.int .u32 0) .returning _ q0 g0).mono ?_
  rintro e u' w'' ⟨rfl, rfl, rfl⟩
  refine leaves_cons (f := 143) (args := #[.pointer (some ⟨b, o + 1, none⟩)]) (by simp [settle]) (by simp [go_sem]) ?_
  refine (unlock_deferred ⟨b, o + 1, none⟩ _ _ ?_ (by rw [World.frozen?_setCell]; exact g1)).mono ?_
  · refine (World.cell?_setCell_other _ ⟨b, o, none⟩ ⟨b, o + 1, none⟩ _ (by simp)).trans ?_
    rw [World.cell?_drew]
    exact q1
  rintro e u' w'' ⟨rfl, rfl, rfl⟩
  simp [Leaves, settle, results, Tryz.results63]
  exact ⟨_, hw1, rfl⟩
theorem do_first (b o : Nat) (x0 : Addr) (w : World) (R : World → Prop) (h0 : w.cell? ⟨b, o, none⟩ = some (.int .u32 0)) (h1 : w.cell? ⟨b, o + 1, none⟩ = some (.int .i32 0)) (f1 : w.frozen? ⟨b, o + 1, none⟩ = false)
    (hF : Calls Tryz.prog 69 #[.pointer (some x0)] (w.setCell ⟨b, o + 1, none⟩ (.int .i32 1)) fun e w1 => (∃ v, e = .returned v) ∧ R w1)
    (hR : ∀ w1, R w1 → w1.cell? ⟨b, o, none⟩ = some (.int .u32 0) ∧ w1.cell? ⟨b, o + 1, none⟩ = some (.int .i32 1) ∧ w1.frozen? ⟨b, o, none⟩ = false ∧ w1.frozen? ⟨b, o + 1, none⟩ = false) :
    Calls Tryz.prog 68 #[.pointer (some ⟨b, o, none⟩), .func (.func 69) #[] #[.pointer (some x0)]] w fun e w' => e = .returned (.tuple #[]) ∧
      ∃ w1, R w1 ∧ w' = (w1.drew.setCell ⟨b, o, none⟩ (.int .u32 1)).setCell ⟨b, o + 1, none⟩ (.int .i32 0) := by
  have HS := Lib.hid (slow_calls b o x0 w R h0 h1 f1 hF hR)
  clear hF hR h1 f1
  go_enter Tryz.func68, Tryz.ntmps68
  go_wp2_with (first | (go_at_call 107; refine (bload_calls _ ⟨b, o, none⟩ 0 false rfl h0).mono ?_; rintro e w' ⟨rfl, hw'⟩; obtain rfl := hw'.symm) | (go_at_call 108; refine HS.out.mono ?_; rintro e w' ⟨rfl, w1, hR1, rfl⟩))
  go_end0
  exact ⟨rfl, w1, hR1, rfl⟩
end Go.Proofs.YtbffgpfkgmhmhaaGreatDoor.Dw
/- A power in a world; slices.Clone, New, is, Down, Disk, Writes (functions 40, 15, 41, 16, 17, 23). -/
set_option linter.unusedVariables false
set_option linter.unusedSimpArgs false
namespace Go.Proofs.YtbffgpfkgmhmhaaGreatDoor.Dw
open Go.RowKit Go.Maps Go.Proofs.YtbffgpfkgmhmhaaGreatDoorW.PrintWords Go.Proofs.YtbffgpfkgmhmhaaGreatDoorW.PrintLast Go.Proofs.YtbffgpfkgmhmhaaGreatDoorW.PrintMore Go.Proofs.Dk
set_option maxRecDepth 100000
/-- Where a power lies, and what it is made of. -/
structure PW where
  base : Nat
  d : Nat
  mb : Nat
  q : Nat
  pb : Nat
  fuse : Int
  A : Option Addr
  cap : Nat
  keep : List Int
/-- What turns in a power: its writes, whether it is off, the once's two words. -/
structure PC where
  wr : Int
  off : Int
  done : Int
  mu : Int
def pcells (k : PW) (c : PC) : Array Value := #[.pointer (some ⟨k.d, 0, none⟩), .int .i64 k.fuse, .slice k.A k.keep.length k.cap, .int .i64 c.wr, .int .i64 c.off, .int .u32 c.done, .int .i32 c.mu, .int .u32 0]
structure IsP (w : World) (k : PW) (L : Lf) (c : PC) : Prop where
  disk : IsD w k.base k.d k.mb k.q L
  top : w.heap[k.pb]? = some (.cells (pcells k c) 117)
  low : k.base ≤ k.pb
  kl : k.keep.length ≤ 9223372036854775807
  kept : ∀ (j : Nat) (h : j < k.keep.length), ∃ ad, k.A = some ad ∧ w.cell? (ad.add j) = some (.int .i64 k.keep[j]) ∧ (∀ r ∈ L, ad.block ≠ r.2.1) ∧ ad.block ≠ k.pb
theorem cell_of_block {w w' : World} {a : Addr} (h : w'.heap[a.block]? = w.heap[a.block]?) : w'.cell? a = w.cell? a := by
  unfold World.cell?
  rw [h]
theorem cell_not_map {w : World} {a : Addr} {v : Value} {es : Array MapEntry} {n : Nat} (h : w.cell? a = some v) (hm : w.heap[a.block]? = some (.map es n)) : False := by
  unfold World.cell? at h
  rw [hm] at h
  cases h
/-- Of what lay there, none but the map, the disk's files and the power were written; a new file lies in a new block. -/
structure TurnP (w w' : World) (k : PW) (L L' : Lf) : Prop where
  apt : ∀ i, i < w.heap.size → i ≠ k.mb → i ≠ k.pb → (∀ p ∈ L, i ≠ p.2.1) → w'.heap[i]? = w.heap[i]?
  size : w.heap.size ≤ w'.heap.size
  news : ∀ r ∈ L', (∃ p ∈ L, r.2.1 = p.2.1) ∨ w.heap.size ≤ r.2.1
theorem Turn.p {w w' : World} {k : PW} {L L' : Lf} (h : Turn w w' k.mb L L') : TurnP w w' k L L' := ⟨fun i hi hm _ hn => h.apt i hi hm hn, h.size, h.news⟩
theorem TurnP.trans {w w1 w2 : World} {k : PW} {L L1 L2 : Lf} (h : TurnP w w1 k L L1) (h2 : TurnP w1 w2 k L1 L2) : TurnP w w2 k L L2 where
  apt := fun i hi hm hb hn => (h2.apt i (Nat.lt_of_lt_of_le hi h.size) hm hb (fun p hp e => by
    rcases h.news p hp with ⟨r, hr, e2⟩ | h3
    · exact hn r hr (e.trans e2)
    · omega)).trans (h.apt i hi hm hb hn)
  size := Nat.le_trans h.size h2.size
  news := fun r hr => by
    rcases h2.news r hr with ⟨p, hp, e⟩ | h3
    · rw [e]; exact h.news p hp
    · exact Or.inr (Nat.le_trans h.size h3)
theorem TurnP.of_below {w w' : World} (h : Below w.heap.size w w') (k : PW) (L : Lf) : TurnP w w' k L L := (Turn.of_below h k.mb L).p
theorem TurnP.set {w w1 : World} {k : PW} {L L1 : Lf} (h : TurnP w w1 k L L1) (j : Nat) (v : Value) : TurnP w (w1.setCell ⟨k.pb, j, none⟩ v) k L L1 :=
  ⟨fun i hi hm hb hn => (Below.heap_setCell _ _ _ _ hb).trans (h.apt i hi hm hb hn), by simp only [World.setCell, Array.size_modify]; exact h.size, h.news⟩
theorem IsP.ne_mb {w : World} {k : PW} {L : Lf} {c : PC} (h : IsP w k L c) : k.pb ≠ k.mb := fun e => by
  obtain ⟨es, clock, hb, _⟩ := h.disk.map
  have h1 := h.top
  rw [e, hb] at h1
  cases h1
theorem IsP.ne_file {w : World} {k : PW} {L : Lf} {c : PC} (h : IsP w k L c) : ∀ r ∈ L, k.pb ≠ r.2.1 := fun r hr e => by
  have h1 := h.top
  rw [e, h.disk.file r hr] at h1
  cases h1
theorem IsP.ne_d {w : World} {k : PW} {L : Lf} {c : PC} (h : IsP w k L c) : k.pb ≠ k.d := fun e => by
  have h1 := h.top
  rw [e, h.disk.top] at h1
  cases h1
theorem IsP.turned {w w' : World} {k : PW} {L L' : Lf} {c : PC} (h : IsP w k L c) (hD : IsD w' k.base k.d k.mb k.q L') (hT : Turn w w' k.mb L L') : IsP w' k L' c where
  disk := hD
  top := (hT.apt _ (heap_lt h.top) h.ne_mb h.ne_file).trans h.top
  low := h.low
  kl := h.kl
  kept := fun j hj => by
    obtain ⟨ad, hA, hc, hf, hp⟩ := h.kept j hj
    have hbl : (ad.add j).block = ad.block := add_block ad j
    have hlt := cell_lt hc
    rw [hbl] at hlt
    refine ⟨ad, hA, (cell_of_block ?_).trans hc, fun r hr => ?_, hp⟩
    · rw [hbl]
      refine hT.apt _ hlt (fun e => ?_) hf
      obtain ⟨es, clock, hb, _⟩ := h.disk.map
      exact cell_not_map hc (by rw [hbl, e]; exact hb)
    · rcases hT.news r hr with ⟨p, hp2, e⟩ | h3
      · rw [e]; exact hf p hp2
      · omega
theorem IsP.below {w w' : World} {k : PW} {L : Lf} {c : PC} (h : IsP w k L c) (hB : Below w.heap.size w w') : IsP w' k L c := h.turned (h.disk.below hB) (.of_below hB k.mb L)
theorem IsP.alloc {w : World} {k : PW} {L : Lf} {c : PC} (h : IsP w k L c) (o : Obj) : IsP (w.alloc o) k L c := h.below ((Below.refl _ w).alloc (Nat.le_refl _) o)
theorem IsP.drewN {w : World} {k : PW} {L : Lf} {c : PC} (h : IsP w k L c) (n : Nat) : IsP (w.drewN n) k L c := h.below (pw_below_drewN (Below.refl _ w) n)
theorem IsP.drew {w : World} {k : PW} {L : Lf} {c : PC} (h : IsP w k L c) : IsP w.drew k L c := h.below (Below.refl _ w).drew
theorem IsP.set {w : World} {k : PW} {L : Lf} {c : PC} (h : IsP w k L c) (j : Nat) (v : Value) {c' : PC} (hc : (pcells k c).setIfInBounds j v = pcells k c') : IsP (w.setCell ⟨k.pb, j, none⟩ v) k L c' where
  disk := h.disk.same fun i o hi hk => (Below.heap_setCell _ _ _ _ (by
    dsimp only
    rcases hk with rfl | rfl | ⟨p, hp, rfl⟩
    · exact fun e => h.ne_d e.symm
    · exact fun e => h.ne_mb e.symm
    · exact fun e => h.ne_file p hp e.symm)).trans hi
  top := by
    rw [Go.Joins.block_setCell h.top]
    exact congrArg (fun cs => some (Obj.cells cs 117)) hc
  low := h.low
  kl := h.kl
  kept := fun i hi => by
    obtain ⟨ad, hA, hc, hf, hp⟩ := h.kept i hi
    refine ⟨ad, hA, (cell_of_block ?_).trans hc, hf, hp⟩
    exact Below.heap_setCell _ _ _ _ (by rw [add_block]; exact hp)
theorem IsP.c {w : World} {k : PW} {L : Lf} {c : PC} (h : IsP w k L c) (j : Nat) {v : Value} (hv : (pcells k c)[j]? = some v) : w.cell? ⟨k.pb, j, none⟩ = some v := by simp [World.cell?, h.top, hv]
theorem IsP.fz {w : World} {k : PW} {L : Lf} {c : PC} (h : IsP w k L c) (j : Nat) : w.frozen? ⟨k.pb, j, none⟩ = false := blk_frozen h.top j
theorem IsP.size {w : World} {k : PW} {L : Lf} {c : PC} (h : IsP w k L c) : k.base ≤ w.heap.size := h.disk.size
/-! ### is, Down, Writes, Disk -/
theorem isp_calls (w : World) {k : PW} {L : Lf} {c : PC} (h : IsP w k L c) : Calls Tryz.prog 67 #[.pointer (some ⟨k.pb, 0, none⟩)] w fun e w' => e = .returned (.bool true) ∧ w' = w := by
  have h0 := h.c 0 (v := .pointer (some ⟨k.d, 0, none⟩)) rfl
  go_enter Tryz.func67, Tryz.ntmps67
  go_wp2
  go_ret
  exact ⟨rfl, rfl⟩
theorem isp_nil (w : World) : Calls Tryz.prog 67 #[.pointer none] w fun e w' => e = .returned (.bool false) ∧ w' = w := by
  go_enter Tryz.func67, Tryz.ntmps67
  go_wp2
  go_ret
  exact ⟨rfl, rfl⟩
theorem isp_zero (w : World) (p : Nat) (h0 : w.cell? ⟨p, 0, none⟩ = some (.pointer none)) : Calls Tryz.prog 67 #[.pointer (some ⟨p, 0, none⟩)] w fun e w' => e = .returned (.bool false) ∧ w' = w := by
  go_enter Tryz.func67, Tryz.ntmps67
  go_wp2
  go_ret
  exact ⟨rfl, rfl⟩
theorem down_calls (w : World) {k : PW} {L : Lf} {c : PC} (h : IsP w k L c) : Calls Tryz.prog 84 #[.pointer (some ⟨k.pb, 0, none⟩)] w fun e w' => e = .returned (.bool (c.off != 0)) ∧ w' = w := by
  have h4 := h.c 4 (v := .int .i64 c.off) rfl
  have H := Lib.hid h
  clear h
  go_enter Tryz.func84, Tryz.ntmps84
  go_wp2_with (first | (go_at_call 67; refine (isp_calls _ H.out).mono ?_; rintro e w' ⟨rfl, hw'⟩; obtain rfl := hw'.symm) | (go_at_call 83; refine (aload_calls _ ⟨k.pb, 4, none⟩ _ h4).mono ?_; rintro e w' ⟨rfl, hw'⟩; obtain rfl := hw'.symm))
  go_ret
  exact ⟨rfl, rfl⟩
/-- No power: nil, or a struct of zeros. -/
def NoP (w : World) (p : Option Addr) : Prop := ∀ a, p = some a → ∃ b, a = ⟨b, 0, none⟩ ∧ w.cell? ⟨b, 0, none⟩ = some (.pointer none)
theorem isp_no (w : World) {p : Option Addr} (h : NoP w p) : Calls Tryz.prog 67 #[.pointer p] w fun e w' => e = .returned (.bool false) ∧ w' = w := by
  cases p with
  | none => exact isp_nil w
  | some a =>
    obtain ⟨b, rfl, h0⟩ := h a rfl
    exact isp_zero w b h0
/-! ### slices.Clone, New -/
theorem info3 : (Tryz.prog.info? 3).map (fun i => (i.zero, i.size, i.bytes)) = some (some (.int .i64 0), 1, 8) := by kernel_rfl
theorem clone_nil (w : World) (n c : Nat) : Calls Tryz.prog 52 #[.slice none n c] w fun e w' => e = .returned (.slice none 0 0) ∧ w' = w := by
  have q22 : ∀ (w : World) (a : Option Addr) (n c n' c' : Nat), (binOp .eql 48 (.slice a n c) (.slice none n' c')).run Tryz.prog w = .ok (.bool a.isNone) w := fun w a n c n' c' => Lib.run_eql_slice_nil w _ _ a n c n' c' Tryz.underlying48
  go_enter Tryz.func52, Tryz.ntmps52
  go_wp2
  go_ret
  exact ⟨rfl, rfl⟩
set_option maxHeartbeats 2000000 in
theorem clone_some (w : World) (ad : Addr) (n c : Nat) (news : List Value) (hl : news.length = n) (hn : n ≤ 1000000) (hc : ∀ j u, news[j]? = some u → w.cell? (ad.add j) = some u) (h1 : ∀ u ∈ news, u.oneCell' = true) :
    Calls Tryz.prog 52 #[.slice (some ad) n c] w fun e w' => ∃ v', e = .returned v' ∧ w'.ownsRow w.heap.size 3 1 v' n news ∧ Below w.heap.size w w' := by
  have q22 : ∀ (w : World) (a : Option Addr) (n c n' c' : Nat), (binOp .eql 48 (.slice a n c) (.slice none n' c')).run Tryz.prog w = .ok (.bool a.isNone) w := fun w a n c n' c' => Lib.run_eql_slice_nil w _ _ a n c n' c' Tryz.underlying48
  obtain ⟨i0, hi, hz0, hz1, hz2⟩ : ∃ i0, Tryz.prog.info? 3 = some i0 ∧ i0.zero = some (.int .i64 0) ∧ i0.size = 1 ∧ i0.bytes = 8 := info_parts info3
  have A := Lib.hid hc
  clear hc
  go_enter Tryz.func52, Tryz.ntmps52
  go_wp2_with (at_builtin; refine wpList_append_own _ rfl _ _ 48 rfl w.heap.size 3 i0 (.int .i64 0) 1 8 Tryz.underlying48 hi hz0 hz1 hz2 rfl (by decide) _ _ _ rfl (World.ownsRow_made w #[] 0 (Nat.le_refl _) (Nat.zero_le _) (by simp)) ad n c news rfl ?qc1 ?qc2 ?qc3 ?qc4 ?qc5 ?qc6 ?_)
  case qc1 => rw [hl]; omega
  case qc2 =>
    intro j u hj
    exact Lib.cell?_alloc_some _ (A.out j u hj)
  case qc3 => exact h1
  case qc4 => rw [Nat.zero_add]; unfold maxLen; omega
  case qc5 => rw [Nat.zero_add]; omega
  case qc6 => simp
  intro v' w1 hown hgrow hnil
  go_wp2
  go_ret
  refine ⟨v', rfl, by simpa using hown, ?_⟩
  exact ((Below.refl _ w).alloc (Nat.le_refl _) _).grown hgrow (by simp) (by intro k hk; simp [Value.ownBlock] at hk; omega)
end Go.Proofs.YtbffgpfkgmhmhaaGreatDoor.Dw
/- A power: New, Blow, write, Create, Append, Sync (functions 15, 22, 48, 43, 18, 44, 19, 45, 20, 46). -/
set_option linter.unusedVariables false
set_option linter.unusedSimpArgs false
namespace Go.Proofs.YtbffgpfkgmhmhaaGreatDoor.Dw
open Go.RowKit Go.Maps Go.Proofs.YtbffgpfkgmhmhaaGreatDoorW.PrintWords Go.Proofs.YtbffgpfkgmhmhaaGreatDoorW.PrintLast Go.Proofs.YtbffgpfkgmhmhaaGreatDoorW.PrintMore Go.Proofs.Dk
set_option maxRecDepth 100000
/-- A cell that is not the disk's. -/
theorem Turn.cell {w w' : World} {base d mb q : Nat} {L L' : Lf} (h : Turn w w' mb L L') (hD : IsD w base d mb q L) {a : Addr} {v : Value} (hc : w.cell? a = some v) (hn : ∀ r ∈ L, a.block ≠ r.2.1) : w'.cell? a = w.cell? a :=
  cell_of_block (h.apt _ (cell_lt hc) (fun e => by
    obtain ⟨es, clock, hb, _⟩ := hD.map
    exact cell_not_map hc (by rw [e]; exact hb)) hn)
theorem kept_row {w : World} {B g : Nat} {cap : Nat} {keep : List Int} (h : w.ownsRow B 3 1 (.slice (some ⟨g, 0, none⟩) keep.length cap) keep.length (keep.map (Value.int .i64))) (j : Nat) (hj : j < keep.length) :
    w.cell? ((⟨g, 0, none⟩ : Addr).add j) = some (.int .i64 keep[j]) :=
  h.cells rfl j _ (by simp [hj])
theorem row_slice {w : World} {B : Nat} {v : Value} {n : Nat} {xs : List Value} (h : w.ownsRow B 3 1 v n xs) : ∃ A cap, v = .slice A n cap := by
  rcases h.2 with ⟨rfl, rfl⟩ | ⟨g, cap, cur, rfl, _⟩
  · exact ⟨_, _, rfl⟩
  · exact ⟨_, _, rfl⟩
set_option maxHeartbeats 1000000 in
theorem pnew_calls (w : World) {base d mb q : Nat} {L : Lf} (hD : IsD w base d mb q L) (fuse : Int) (A : Option Addr) (cap : Nat) (keep : List Int) (hkl : keep.length ≤ 1000000) (hA : A = none → keep = [])
    (hk : Nums w A keep) : Calls Tryz.prog 14 #[.pointer (some ⟨d, 0, none⟩), .int .i64 fuse, .slice A keep.length cap] w fun e w' =>
      ∃ pb A' cap', e = .returned (.pointer (some ⟨pb, 0, none⟩)) ∧ IsP w' ⟨base, d, mb, q, pb, fuse, A', cap', keep⟩ L ⟨0, 0, 0, 0⟩ ∧ Below w.heap.size w w' ∧ w.heap.size ≤ pb := by
  have HD := Lib.hid hD
  have HC0 : Calls Tryz.prog 52 #[.slice A keep.length cap] w fun e w' => ∃ v', e = .returned v' ∧ w'.ownsRow w.heap.size 3 1 v' keep.length (keep.map (Value.int .i64)) ∧ Below w.heap.size w w' := by
    cases A with
    | none =>
      obtain rfl := hA rfl
      refine (clone_nil w _ _).mono ?_
      rintro e w' ⟨rfl, rfl⟩
      exact ⟨_, rfl, ⟨by simp, Or.inl ⟨rfl, rfl⟩⟩, Below.refl _ _⟩
    | some ad =>
      refine clone_some w ad keep.length cap (keep.map (Value.int .i64)) (by simp) hkl (fun j u hj => ?_) (fun u hu => ?_)
      · have hj2 : j < keep.length := by
          have := (List.getElem?_eq_some_iff.1 hj).1
          simpa using this
        obtain ⟨ad', ha, hc⟩ := hk j hj2
        cases ha
        rw [hc]
        rw [List.getElem?_map, List.getElem?_eq_getElem hj2] at hj
        exact hj
      · obtain ⟨x, _, rfl⟩ := List.mem_map.1 hu
        rfl
  have HC := Lib.hid HC0
  clear hD hk hA HC0
  go_enter Tryz.func14, Tryz.ntmps14
  go_wp2_with (go_at_call 52; refine HC.out.mono ?_; rintro e w1 ⟨v', rfl, hown, hB⟩; obtain ⟨A', cap', rfl⟩ := row_slice hown; have HO := Lib.hid hown; have HB := Lib.hid hB; clear hown hB)
  go_ret
  have hD1 := HD.out.below HB.out
  have hlow : base ≤ w1.heap.size := hD1.size
  have hsz := HB.out.size
  refine ⟨w1.heap.size, A', cap', rfl, ?_, HB.out.trans ((Below.refl _ w1).alloc hsz _), hsz⟩
  refine ⟨hD1.alloc _, heap_alloc_new w1 _, hlow, by dsimp only; omega, fun j hj => ?_⟩
  dsimp only at hj
  rcases HO.out.2 with ⟨he, h0⟩ | ⟨g, cap2, cur, he, hg, hcur, _⟩
  · omega
  · obtain ⟨rfl, rfl⟩ : A' = some ⟨g, 0, none⟩ ∧ cap' = cap2 := by injection he with h1 h2 h3; exact ⟨h1, h3⟩
    have hc := kept_row HO.out j hj
    refine ⟨⟨g, 0, none⟩, rfl, cell_below hc ((Below.refl _ w1).alloc (Nat.le_refl _) _), fun r hr e => ?_, fun e => ?_⟩
    · have h1 := heap_lt (HD.out.file r hr)
      dsimp only at e
      omega
    · have h1 := heap_lt hcur
      dsimp only at e
      omega
/-! ### Blow -/
theorem blow1_calls (w : World) {k : PW} {L : Lf} {c : PC} (h : IsP w k L c) (x0 : Addr) (hx : w.cell? x0 = some (.pointer (some ⟨k.pb, 0, none⟩))) (hxt : ∀ r ∈ L, x0.block ≠ r.2.1) (hxp : x0.block ≠ k.pb) :
    Calls Tryz.prog 69 #[.pointer (some x0)] w fun e w' => (∃ v, e = .returned v) ∧ ∃ L', fs L' = crash k.keep (fs L) ∧ IsP w' k L' { c with off := 1 } ∧ Below k.base w w' ∧ TurnP w w' k L L' := by
  have H := Lib.hid h
  go_enter Tryz.func69, Tryz.ntmps69
  go_wp2_with fail
  refine start_ (n := 9) (S := (fun w' => w'.cell? x0 = some (.pointer (some ⟨k.pb, 0, none⟩)) ∧ ∃ L1 c1, IsP w' k L1 c1)) (ds := []) #[false, false, false, false, false, false, false, false, false] (by kernel_rfl) rfl rfl ⟨hx, _, _, h.drew⟩ (fun hHeld => ?_)
  refine take_ (i := 0) (N := some 1) (v := ?_) (a' := ?_) #[true, false, false, false, false, false, false, false, false] rfl rfl (by kernel_rfl) (fun _ _ _ h => h) (Or.inl ⟨by rfl, ?_⟩) hHeld ?_ ?_
  rotate_left
  · rintro w' ⟨hx1, L1, c1, hP1⟩
    have g0 := hP1.c 0 (v := .pointer (some ⟨k.d, 0, none⟩)) rfl
    have g2 := hP1.c 2 (v := .slice k.A k.keep.length k.cap) rfl
    go_simp
    with_reducible rfl
  rotate_left
  · simp only [Act.put, List.setIfInBounds_toArray, List.set_cons_zero, List.set_cons_succ, i64_w, i32_w]
    rfl
  refine pure_ (i := 1) (N := some 2) (v := ?_) (a' := ?_) #[true, true, false, false, false, false, false, false, false] rfl rfl (by kernel_rfl) (fun _ _ _ h => h) (Or.inl ⟨by rfl, ?_⟩) ?_ ?_
  rotate_left
  · intro w'
    go_simp
    with_reducible rfl
  rotate_left
  · simp only [Act.put, List.setIfInBounds_toArray, List.set_cons_zero, List.set_cons_succ, i64_w, i32_w]
    rfl
  refine pure_ (i := 2) (N := some 3) (v := ?_) (a' := ?_) #[true, true, true, false, false, false, false, false, false] rfl rfl (by kernel_rfl) (fun _ _ _ h => h) (Or.inl ⟨by rfl, ?_⟩) ?_ ?_
  rotate_left
  · intro w'
    go_simp
    with_reducible rfl
  rotate_left
  · simp only [Act.put, List.setIfInBounds_toArray, List.set_cons_zero, List.set_cons_succ, i64_w, i32_w]
    rfl
  refine take_ (i := 3) (N := some 4) (v := ?_) (a' := ?_) #[true, true, true, true, false, false, false, false, false] rfl rfl (by kernel_rfl) (fun _ _ _ h => h) (Or.inl ⟨by rfl, ?_⟩) hHeld ?_ ?_
  rotate_left
  · rintro w' ⟨hx1, L1, c1, hP1⟩
    have g0 := hP1.c 0 (v := .pointer (some ⟨k.d, 0, none⟩)) rfl
    have g2 := hP1.c 2 (v := .slice k.A k.keep.length k.cap) rfl
    go_simp
    with_reducible rfl
  rotate_left
  · simp only [Act.put, List.setIfInBounds_toArray, List.set_cons_zero, List.set_cons_succ, i64_w, i32_w]
    rfl
  refine take_ (i := 4) (N := some 5) (v := ?_) (a' := ?_) #[true, true, true, true, true, false, false, false, false] rfl rfl (by kernel_rfl) (fun _ _ _ h => h) (Or.inl ⟨by rfl, ?_⟩) hHeld ?_ ?_
  rotate_left
  · rintro w' ⟨hx1, L1, c1, hP1⟩
    have g0 := hP1.c 0 (v := .pointer (some ⟨k.d, 0, none⟩)) rfl
    have g2 := hP1.c 2 (v := .slice k.A k.keep.length k.cap) rfl
    go_simp
    with_reducible rfl
  rotate_left
  · simp only [Act.put, List.setIfInBounds_toArray, List.set_cons_zero, List.set_cons_succ, i64_w, i32_w]
    rfl
  refine pure_ (i := 5) (N := some 6) (v := ?_) (a' := ?_) #[true, true, true, true, true, true, false, false, false] rfl rfl (by kernel_rfl) (fun _ _ _ h => h) (Or.inl ⟨by rfl, ?_⟩) ?_ ?_
  rotate_left
  · intro w'
    go_simp
    with_reducible rfl
  rotate_left
  · simp only [Act.put, List.setIfInBounds_toArray, List.set_cons_zero, List.set_cons_succ, i64_w, i32_w]
    rfl
  refine pure_ (i := 6) (N := some 7) (v := ?_) (a' := ?_) #[true, true, true, true, true, true, true, false, false] rfl rfl (by kernel_rfl) (fun _ _ _ h => h) (Or.inl ⟨by rfl, ?_⟩) ?_ ?_
  rotate_left
  · intro w'
    go_simp
    with_reducible rfl
  rotate_left
  · simp only [Act.put, List.setIfInBounds_toArray, List.set_cons_zero, List.set_cons_succ, i64_w, i32_w]
    rfl
  refine take_ (i := 7) (N := some 8) (v := ?_) (a' := ?_) #[true, true, true, true, true, true, true, true, false] rfl rfl (by kernel_rfl) (fun _ _ _ h => h) (Or.inl ⟨by rfl, ?_⟩) hHeld ?_ ?_
  rotate_left
  · rintro w' ⟨hx1, L1, c1, hP1⟩
    have g0 := hP1.c 0 (v := .pointer (some ⟨k.d, 0, none⟩)) rfl
    have g2 := hP1.c 2 (v := .slice k.A k.keep.length k.cap) rfl
    go_simp
    with_reducible rfl
  rotate_left
  · simp only [Act.put, List.setIfInBounds_toArray, List.set_cons_zero, List.set_cons_succ, i64_w, i32_w]
    rfl
  refine one_ (i := 8) (N := some 9) #[true, true, true, true, true, true, true, true, true] rfl rfl (by kernel_rfl) (by decide) (fun K hK => ?_)
  refine goes_ Tryz.func70 (by kernel_rfl) rfl #[.pointer (some ⟨k.d, 0, none⟩), .slice k.A k.keep.length k.cap] (by rfl) rfl rfl (by simp only [List.map_toArray, List.map_cons, List.map_nil]; rfl) ?_
  refine (crash_full _ H.out.drew.disk k.A k.cap k.keep H.out.kl (fun j hj => by obtain ⟨ad, hA, hc, hf, hp⟩ := H.out.drew.kept j hj; exact ⟨ad, hA, hc, hf⟩)).mono ?_
  rintro e w5 ⟨⟨v, rfl⟩, hB5, L', hL', hD5, hT5⟩
  have HP5 := Lib.hid (H.out.drew.turned hD5 hT5)
  have HX5 := Lib.hid ((hT5.cell (H.out.drew.disk) hx hxt).trans hx)
  have HB5 := Lib.hid (((Below.refl k.base w).drew).trans hB5)
  have HT5 := Lib.hid ((TurnP.of_below (Below.refl _ w).drew k L).trans hT5.p)
  clear hB5 hD5 hT5 hx
  refine ⟨_, rfl, ?_⟩
  refine hK.out _ _ ⟨HX5.out, _, _, HP5.out⟩ (fun hHeld => ?_)
  clear hK K
  refine norm_ (a' := ?_) ?_ ?_
  rotate_left
  · show Act.put _ (some 9) _ = _
    simp only [Act.put, List.setIfInBounds_toArray, List.set_cons_zero, List.set_cons_succ, i64_w, i32_w]
    rfl
  refine done_ (by kernel_rfl) ?_
  clear h
  have x5 := HX5.out
  have c4 := HP5.out.c 4 (v := .int .i64 c.off) rfl
  have z4 := HP5.out.fz 4
  go_wp2_with (go_at_call 71; refine (astore_calls _ ⟨k.pb, 4, none⟩ 1 c4 z4).mono ?_; rintro e w6 ⟨rfl, hw'⟩; obtain rfl := hw'.symm)
  go_end0
  exact ⟨⟨_, rfl⟩, L', hL', HP5.out.set 4 (.int .i64 1) rfl, HB5.out.setCell (p := ⟨k.pb, 4, none⟩) HP5.out.low _, HT5.out.set 4 _⟩
/-- Not off: it goes off. -/
theorem blow_on (w : World) {k : PW} {L : Lf} {c : PC} (h : IsP w k L c) (hd : c.done = 0) (hm : c.mu = 0) : Calls Tryz.prog 25 #[.pointer (some ⟨k.pb, 0, none⟩)] w fun e w' =>
    (∃ v, e = .returned v) ∧ ∃ L', fs L' = crash k.keep (fs L) ∧ IsP w' k L' ⟨c.wr, 1, 1, 0⟩ ∧ Below k.base w w' ∧ TurnP w w' k L L' := by
  have hP1 := h.alloc (.cells #[.pointer (some ⟨k.pb, 0, none⟩)] 40)
  have hx1 : (w.alloc (.cells #[.pointer (some ⟨k.pb, 0, none⟩)] 40)).cell? ⟨w.heap.size, 0, none⟩ = some (.pointer (some ⟨k.pb, 0, none⟩)) := by simp
  have HI := Lib.hid (isp_calls _ hP1)
  have HB1 := Lib.hid ((Below.refl w.heap.size w).alloc (Nat.le_refl _) (.cells #[.pointer (some ⟨k.pb, 0, none⟩)] 40))
  have hpl := heap_lt h.top
  have hfl : ∀ r ∈ L, w.heap.size ≠ r.2.1 := fun r hr e => by have := heap_lt (h.disk.file r hr); omega
  have hsz := h.size
  generalize hW : w.alloc (.cells #[.pointer (some ⟨k.pb, 0, none⟩)] 40) = W at *
  have c5 : W.cell? ⟨k.pb, 5, none⟩ = some (.int .u32 0) := by have := hP1.c 5 (v := .int .u32 c.done) rfl; rwa [hd] at this
  have c6 : W.cell? ⟨k.pb, 5 + 1, none⟩ = some (.int .i32 0) := by have := hP1.c 6 (v := .int .i32 c.mu) rfl; rwa [hm] at this
  have hP2 := hP1.set 6 (.int .i32 1) (c' := { c with mu := 1 }) rfl
  have hx2 : (W.setCell ⟨k.pb, 5 + 1, none⟩ (.int .i32 1)).cell? ⟨w.heap.size, 0, none⟩ = some (.pointer (some ⟨k.pb, 0, none⟩)) := (cell_of_block (Below.heap_setCell _ _ _ _ (by dsimp only; omega))).trans hx1
  have HF := Lib.hid (do_first k.pb 5 ⟨w.heap.size, 0, none⟩ W _ c5 c6 (hP1.fz 6) (blow1_calls _ hP2 ⟨w.heap.size, 0, none⟩ hx2 hfl (by dsimp only; omega)) (fun w1 hw1 => by
    obtain ⟨L', hL', hP3, _, _⟩ := hw1
    have a5 := hP3.c 5 (v := .int .u32 c.done) rfl
    rw [hd] at a5
    exact ⟨a5, hP3.c 6 rfl, hP3.fz 5, hP3.fz 6⟩))
  have H1 := Lib.hid hP1
  clear c5 c6 hP2 hx2 hP1 h
  go_enter Tryz.func25, Tryz.ntmps25
  go_wp2_with (first | (go_at_call 67; refine HI.out.mono ?_; rintro e w' ⟨rfl, hw'⟩; obtain rfl := hw'.symm) | (go_at_call 68; refine HF.out.mono ?_; rintro e w' ⟨rfl, w1, ⟨L', hL', hP3, hB3, hT3⟩, rfl⟩; have HP3 := Lib.hid hP3; have HB3 := Lib.hid hB3; have HT3 := Lib.hid hT3; clear hP3 hB3 hT3))
  go_end0
  have hP4 := (HP3.out.drew.set 5 (.int .u32 1) (c' := ⟨c.wr, 1, 1, 1⟩) rfl).set 6 (.int .i32 0) (c' := ⟨c.wr, 1, 1, 0⟩) rfl
  have hB2 : Below k.base w (W.setCell ⟨k.pb, 6, none⟩ (.int .i32 1)) := (HB1.out.mono hsz).setCell (p := ⟨k.pb, 6, none⟩) H1.out.low _
  have hT2 : TurnP w (W.setCell ⟨k.pb, 6, none⟩ (.int .i32 1)) k L L := (TurnP.of_below HB1.out k L).set 6 _
  refine ⟨⟨_, rfl⟩, L', hL', hP4, ((((hB2.trans HB3.out).drew).setCell (p := ⟨k.pb, 5, none⟩) H1.out.low _).setCell (p := ⟨k.pb, 6, none⟩) H1.out.low _), ?_⟩
  exact (((hT2.trans HT3.out).trans (TurnP.of_below (Below.refl _ w1).drew k L')).set 5 _).set 6 _
/-! ### the closures of Create, Append, Sync -/
theorem create1_calls (w : World) {k : PW} {L : Lf} {c : PC} (h : IsP w k L c) (x0 x1 : Addr) (n : Tx) (hx : w.cell? x0 = some (.pointer (some ⟨k.pb, 0, none⟩))) (hx1 : w.cell? x1 = some (.string (bs n))) :
    Calls Tryz.prog 100 #[.pointer (some x0), .pointer (some x1)] w (DidT w k.base k.d k.mb k.q L (create (fs L) n)) := by
  have H := Lib.hid h
  clear h
  go_enter Tryz.func100, Tryz.ntmps100
  go_wp2_with fail
  refine start_ (n := 7) (S := (fun w' => w'.cell? x0 = some (.pointer (some ⟨k.pb, 0, none⟩)) ∧ w'.cell? x1 = some (.string (bs n)) ∧ IsP w' k L c)) (ds := [5]) #[false, false, false, false, false, false, false] (by kernel_rfl) rfl rfl ⟨hx, hx1, H.out.drew⟩ (fun hHeld => ?_)
  refine take_ (i := 0) (N := some 3) (v := ?_) (a' := ?_) #[true, false, false, false, false, false, false] rfl rfl (by kernel_rfl) (fun _ _ _ h => h) (Or.inl ⟨by rfl, ?_⟩) hHeld ?_ ?_
  rotate_left
  · rintro w' ⟨hx0, hy1, hP1⟩
    have g0 := hP1.c 0 (v := .pointer (some ⟨k.d, 0, none⟩)) rfl
    go_simp
    with_reducible rfl
  rotate_left
  · simp only [Act.put, List.setIfInBounds_toArray, List.set_cons_zero, List.set_cons_succ, i64_w, i32_w]
    rfl
  refine pure_ (i := 1) (N := some 4) (v := ?_) (a' := ?_) #[true, true, false, false, false, false, false] rfl rfl (by kernel_rfl) (fun _ _ _ h => h) (Or.inl ⟨by rfl, ?_⟩) ?_ ?_
  rotate_left
  · intro w'
    go_simp
    with_reducible rfl
  rotate_left
  · simp only [Act.put, List.setIfInBounds_toArray, List.set_cons_zero, List.set_cons_succ, i64_w, i32_w]
    rfl
  refine pure_ (i := 2) (N := some 5) (v := ?_) (a' := ?_) #[true, true, true, false, false, false, false] rfl rfl (by kernel_rfl) (fun _ _ _ h => h) (Or.inl ⟨by rfl, ?_⟩) ?_ ?_
  rotate_left
  · intro w'
    go_simp
    with_reducible rfl
  rotate_left
  · simp only [Act.put, List.setIfInBounds_toArray, List.set_cons_zero, List.set_cons_succ, i64_w, i32_w]
    rfl
  refine take_ (i := 3) (N := some 6) (v := ?_) (a' := ?_) #[true, true, true, true, false, false, false] rfl rfl (by kernel_rfl) (fun _ _ _ h => h) (Or.inl ⟨by rfl, ?_⟩) hHeld ?_ ?_
  rotate_left
  · rintro w' ⟨hx0, hy1, hP1⟩
    have g0 := hP1.c 0 (v := .pointer (some ⟨k.d, 0, none⟩)) rfl
    go_simp
    with_reducible rfl
  rotate_left
  · simp only [Act.put, List.setIfInBounds_toArray, List.set_cons_zero, List.set_cons_succ, i64_w, i32_w]
    rfl
  refine take_ (i := 4) (N := some 7) (v := ?_) (a' := ?_) #[true, true, true, true, true, false, false] rfl rfl (by kernel_rfl) (fun _ _ _ h => h) (Or.inl ⟨by rfl, ?_⟩) hHeld ?_ ?_
  rotate_left
  · rintro w' ⟨hx0, hy1, hP1⟩
    have g0 := hP1.c 0 (v := .pointer (some ⟨k.d, 0, none⟩)) rfl
    go_simp
    with_reducible rfl
  rotate_left
  · simp only [Act.put, List.setIfInBounds_toArray, List.set_cons_zero, List.set_cons_succ, i64_w, i32_w]
    rfl
  refine last_ (i := 5) (N := some 8) #[true, true, true, true, true, true, false] rfl rfl (by kernel_rfl) (by decide) (fun K hK => ?_)
  refine goes_ Tryz.func101 (by kernel_rfl) rfl #[.pointer (some ⟨k.d, 0, none⟩), .string (bs n)] (by rfl) rfl rfl (by simp only [List.map_toArray, List.map_cons, List.map_nil]; rfl) ?_
  refine (create_full _ H.out.drew.disk n).mono ?_
  rintro e w5 ⟨rfl, hB5, L', hL', hD5, hT5⟩
  refine ⟨_, rfl, ?_⟩
  refine hK.out _ _ ?_
  clear hK K
  refine norm_ (a' := ?_) ?_ ?_
  rotate_left
  · show Act.put _ (some 8) _ = _
    simp only [Act.put, List.setIfInBounds_toArray, List.set_cons_zero, List.set_cons_succ, i64_w, i32_w]
    rfl
  refine pure_ (i := 6) (N := some 2) (v := ?_) (a' := ?_) #[true, true, true, true, true, true, true] rfl rfl (by kernel_rfl) (fun _ _ _ h => h) (Or.inl ⟨by rfl, ?_⟩) ?_ ?_
  rotate_left
  · intro w'
    go_simp
    with_reducible rfl
  rotate_left
  · simp only [Act.put, List.setIfInBounds_toArray, List.set_cons_zero, List.set_cons_succ, i64_w, i32_w]
    rfl
  refine done_ (by kernel_rfl) ?_
  go_wp2_with fail
  go_ret
  exact ⟨rfl, ((Below.refl _ w).drew).trans hB5, L', hL', hD5, ((Turn.of_below (Below.refl _ w).drew k.mb L).trans hT5)⟩
theorem sync1_calls (w : World) {k : PW} {L : Lf} {c : PC} (h : IsP w k L c) (x0 x1 : Addr) (n : Tx) (hx : w.cell? x0 = some (.pointer (some ⟨k.pb, 0, none⟩))) (hx1 : w.cell? x1 = some (.string (bs n))) :
    Calls Tryz.prog 65 #[.pointer (some x0), .pointer (some x1)] w (DidT w k.base k.d k.mb k.q L (sync (fs L) n)) := by
  have H := Lib.hid h
  clear h
  go_enter Tryz.func65, Tryz.ntmps65
  go_wp2_with fail
  refine start_ (n := 7) (S := (fun w' => w'.cell? x0 = some (.pointer (some ⟨k.pb, 0, none⟩)) ∧ w'.cell? x1 = some (.string (bs n)) ∧ IsP w' k L c)) (ds := [5]) #[false, false, false, false, false, false, false] (by kernel_rfl) rfl rfl ⟨hx, hx1, H.out.drew⟩ (fun hHeld => ?_)
  refine take_ (i := 0) (N := some 3) (v := ?_) (a' := ?_) #[true, false, false, false, false, false, false] rfl rfl (by kernel_rfl) (fun _ _ _ h => h) (Or.inl ⟨by rfl, ?_⟩) hHeld ?_ ?_
  rotate_left
  · rintro w' ⟨hx0, hy1, hP1⟩
    have g0 := hP1.c 0 (v := .pointer (some ⟨k.d, 0, none⟩)) rfl
    go_simp
    with_reducible rfl
  rotate_left
  · simp only [Act.put, List.setIfInBounds_toArray, List.set_cons_zero, List.set_cons_succ, i64_w, i32_w]
    rfl
  refine pure_ (i := 1) (N := some 4) (v := ?_) (a' := ?_) #[true, true, false, false, false, false, false] rfl rfl (by kernel_rfl) (fun _ _ _ h => h) (Or.inl ⟨by rfl, ?_⟩) ?_ ?_
  rotate_left
  · intro w'
    go_simp
    with_reducible rfl
  rotate_left
  · simp only [Act.put, List.setIfInBounds_toArray, List.set_cons_zero, List.set_cons_succ, i64_w, i32_w]
    rfl
  refine pure_ (i := 2) (N := some 5) (v := ?_) (a' := ?_) #[true, true, true, false, false, false, false] rfl rfl (by kernel_rfl) (fun _ _ _ h => h) (Or.inl ⟨by rfl, ?_⟩) ?_ ?_
  rotate_left
  · intro w'
    go_simp
    with_reducible rfl
  rotate_left
  · simp only [Act.put, List.setIfInBounds_toArray, List.set_cons_zero, List.set_cons_succ, i64_w, i32_w]
    rfl
  refine take_ (i := 3) (N := some 6) (v := ?_) (a' := ?_) #[true, true, true, true, false, false, false] rfl rfl (by kernel_rfl) (fun _ _ _ h => h) (Or.inl ⟨by rfl, ?_⟩) hHeld ?_ ?_
  rotate_left
  · rintro w' ⟨hx0, hy1, hP1⟩
    have g0 := hP1.c 0 (v := .pointer (some ⟨k.d, 0, none⟩)) rfl
    go_simp
    with_reducible rfl
  rotate_left
  · simp only [Act.put, List.setIfInBounds_toArray, List.set_cons_zero, List.set_cons_succ, i64_w, i32_w]
    rfl
  refine take_ (i := 4) (N := some 7) (v := ?_) (a' := ?_) #[true, true, true, true, true, false, false] rfl rfl (by kernel_rfl) (fun _ _ _ h => h) (Or.inl ⟨by rfl, ?_⟩) hHeld ?_ ?_
  rotate_left
  · rintro w' ⟨hx0, hy1, hP1⟩
    have g0 := hP1.c 0 (v := .pointer (some ⟨k.d, 0, none⟩)) rfl
    go_simp
    with_reducible rfl
  rotate_left
  · simp only [Act.put, List.setIfInBounds_toArray, List.set_cons_zero, List.set_cons_succ, i64_w, i32_w]
    rfl
  refine last_ (i := 5) (N := some 8) #[true, true, true, true, true, true, false] rfl rfl (by kernel_rfl) (by decide) (fun K hK => ?_)
  refine goes_ Tryz.func66 (by kernel_rfl) rfl #[.pointer (some ⟨k.d, 0, none⟩), .string (bs n)] (by rfl) rfl rfl (by simp only [List.map_toArray, List.map_cons, List.map_nil]; rfl) ?_
  refine (sync_full _ H.out.drew.disk n).mono ?_
  rintro e w5 ⟨rfl, hB5, L', hL', hD5, hT5⟩
  refine ⟨_, rfl, ?_⟩
  refine hK.out _ _ ?_
  clear hK K
  refine norm_ (a' := ?_) ?_ ?_
  rotate_left
  · show Act.put _ (some 8) _ = _
    simp only [Act.put, List.setIfInBounds_toArray, List.set_cons_zero, List.set_cons_succ, i64_w, i32_w]
    rfl
  refine pure_ (i := 6) (N := some 2) (v := ?_) (a' := ?_) #[true, true, true, true, true, true, true] rfl rfl (by kernel_rfl) (fun _ _ _ h => h) (Or.inl ⟨by rfl, ?_⟩) ?_ ?_
  rotate_left
  · intro w'
    go_simp
    with_reducible rfl
  rotate_left
  · simp only [Act.put, List.setIfInBounds_toArray, List.set_cons_zero, List.set_cons_succ, i64_w, i32_w]
    rfl
  refine done_ (by kernel_rfl) ?_
  go_wp2_with fail
  go_ret
  exact ⟨rfl, ((Below.refl _ w).drew).trans hB5, L', hL', hD5, ((Turn.of_below (Below.refl _ w).drew k.mb L).trans hT5)⟩
theorem append1_calls (w : World) {k : PW} {L : Lf} {c : PC} (h : IsP w k L c) (x0 x1 x2 : Addr) (n b : Tx) (hb : b.length ≤ 100000) (hx : w.cell? x0 = some (.pointer (some ⟨k.pb, 0, none⟩))) (hx1 : w.cell? x1 = some (.string (bs n))) (hx2 : w.cell? x2 = some (.string (bs b))) :
    Calls Tryz.prog 102 #[.pointer (some x0), .pointer (some x1), .pointer (some x2)] w (DidT w k.base k.d k.mb k.q L (append k.q (fs L) n b)) := by
  have H := Lib.hid h
  clear h
  go_enter Tryz.func102, Tryz.ntmps102
  go_wp2_with fail
  refine start_ (n := 8) (S := (fun w' => w'.cell? x0 = some (.pointer (some ⟨k.pb, 0, none⟩)) ∧ w'.cell? x1 = some (.string (bs n)) ∧ w'.cell? x2 = some (.string (bs b)) ∧ IsP w' k L c)) (ds := [6]) #[false, false, false, false, false, false, false, false] (by kernel_rfl) rfl rfl ⟨hx, hx1, hx2, H.out.drew⟩ (fun hHeld => ?_)
  refine take_ (i := 0) (N := some 4) (v := ?_) (a' := ?_) #[true, false, false, false, false, false, false, false] rfl rfl (by kernel_rfl) (fun _ _ _ h => h) (Or.inl ⟨by rfl, ?_⟩) hHeld ?_ ?_
  rotate_left
  · rintro w' ⟨hx0, hy1, hy2, hP1⟩
    have g0 := hP1.c 0 (v := .pointer (some ⟨k.d, 0, none⟩)) rfl
    go_simp
    with_reducible rfl
  rotate_left
  · simp only [Act.put, List.setIfInBounds_toArray, List.set_cons_zero, List.set_cons_succ, i64_w, i32_w]
    rfl
  refine pure_ (i := 1) (N := some 5) (v := ?_) (a' := ?_) #[true, true, false, false, false, false, false, false] rfl rfl (by kernel_rfl) (fun _ _ _ h => h) (Or.inl ⟨by rfl, ?_⟩) ?_ ?_
  rotate_left
  · intro w'
    go_simp
    with_reducible rfl
  rotate_left
  · simp only [Act.put, List.setIfInBounds_toArray, List.set_cons_zero, List.set_cons_succ, i64_w, i32_w]
    rfl
  refine pure_ (i := 2) (N := some 6) (v := ?_) (a' := ?_) #[true, true, true, false, false, false, false, false] rfl rfl (by kernel_rfl) (fun _ _ _ h => h) (Or.inl ⟨by rfl, ?_⟩) ?_ ?_
  rotate_left
  · intro w'
    go_simp
    with_reducible rfl
  rotate_left
  · simp only [Act.put, List.setIfInBounds_toArray, List.set_cons_zero, List.set_cons_succ, i64_w, i32_w]
    rfl
  refine take_ (i := 3) (N := some 7) (v := ?_) (a' := ?_) #[true, true, true, true, false, false, false, false] rfl rfl (by kernel_rfl) (fun _ _ _ h => h) (Or.inl ⟨by rfl, ?_⟩) hHeld ?_ ?_
  rotate_left
  · rintro w' ⟨hx0, hy1, hy2, hP1⟩
    have g0 := hP1.c 0 (v := .pointer (some ⟨k.d, 0, none⟩)) rfl
    go_simp
    with_reducible rfl
  rotate_left
  · simp only [Act.put, List.setIfInBounds_toArray, List.set_cons_zero, List.set_cons_succ, i64_w, i32_w]
    rfl
  refine take_ (i := 4) (N := some 8) (v := ?_) (a' := ?_) #[true, true, true, true, true, false, false, false] rfl rfl (by kernel_rfl) (fun _ _ _ h => h) (Or.inl ⟨by rfl, ?_⟩) hHeld ?_ ?_
  rotate_left
  · rintro w' ⟨hx0, hy1, hy2, hP1⟩
    have g0 := hP1.c 0 (v := .pointer (some ⟨k.d, 0, none⟩)) rfl
    go_simp
    with_reducible rfl
  rotate_left
  · simp only [Act.put, List.setIfInBounds_toArray, List.set_cons_zero, List.set_cons_succ, i64_w, i32_w]
    rfl
  refine take_ (i := 5) (N := some 9) (v := ?_) (a' := ?_) #[true, true, true, true, true, true, false, false] rfl rfl (by kernel_rfl) (fun _ _ _ h => h) (Or.inl ⟨by rfl, ?_⟩) hHeld ?_ ?_
  rotate_left
  · rintro w' ⟨hx0, hy1, hy2, hP1⟩
    have g0 := hP1.c 0 (v := .pointer (some ⟨k.d, 0, none⟩)) rfl
    go_simp
    with_reducible rfl
  rotate_left
  · simp only [Act.put, List.setIfInBounds_toArray, List.set_cons_zero, List.set_cons_succ, i64_w, i32_w]
    rfl
  refine last_ (i := 6) (N := some 10) #[true, true, true, true, true, true, true, false] rfl rfl (by kernel_rfl) (by decide) (fun K hK => ?_)
  refine goes_ Tryz.func103 (by kernel_rfl) rfl #[.pointer (some ⟨k.d, 0, none⟩), .string (bs n), .string (bs b)] (by rfl) rfl rfl (by simp only [List.map_toArray, List.map_cons, List.map_nil]; rfl) ?_
  refine (append_turn _ H.out.drew.disk n b hb).mono ?_
  rintro e w5 ⟨rfl, hB5, L', hL', hD5, hT5⟩
  refine ⟨_, rfl, ?_⟩
  refine hK.out _ _ ?_
  clear hK K
  refine norm_ (a' := ?_) ?_ ?_
  rotate_left
  · show Act.put _ (some 10) _ = _
    simp only [Act.put, List.setIfInBounds_toArray, List.set_cons_zero, List.set_cons_succ, i64_w, i32_w]
    rfl
  refine pure_ (i := 7) (N := some 3) (v := ?_) (a' := ?_) #[true, true, true, true, true, true, true, true] rfl rfl (by kernel_rfl) (fun _ _ _ h => h) (Or.inl ⟨by rfl, ?_⟩) ?_ ?_
  rotate_left
  · intro w'
    go_simp
    with_reducible rfl
  rotate_left
  · simp only [Act.put, List.setIfInBounds_toArray, List.set_cons_zero, List.set_cons_succ, i64_w, i32_w]
    rfl
  refine done_ (by kernel_rfl) ?_
  go_wp2_with fail
  go_ret
  exact ⟨rfl, ((Below.refl _ w).drew).trans hB5, L', hL', hD5, ((Turn.of_below (Below.refl _ w).drew k.mb L).trans hT5)⟩
end Go.Proofs.YtbffgpfkgmhmhaaGreatDoor.Dw
/- A power: write, Create, Append, Sync, Read, List (functions 43, 18, 19, 20, 25, 21). -/
set_option linter.unusedVariables false
set_option linter.unusedSimpArgs false
namespace Go.Proofs.Dk
/-- A power in plain words: its disk's files, its writes, whether it is off. -/
structure PS where
  l : FS
  wr : Nat
  dn : Bool
/-- Is the first number to keep odd? -/
def oddK : List Int → Bool
  | [] => false
  | x :: _ => bits .and .i64 x 1 == 1
/-- A write. -/
def pw (fuse : Int) (keep : List Int) (f : FS → FS × Nat) (s : PS) : PS × Nat :=
  if s.dn then (s, 8) else if (s.wr : Int) = fuse then (⟨crash keep (if oddK keep then (f s.l).1 else s.l), s.wr + 1, true⟩, 8) else (⟨(f s.l).1, s.wr + 1, false⟩, (f s.l).2)
def onI (b : Bool) : Int := if b then 1 else 0
end Go.Proofs.Dk
namespace Go.Proofs.YtbffgpfkgmhmhaaGreatDoor.Dw
open Go.RowKit Go.Maps Go.Proofs.YtbffgpfkgmhmhaaGreatDoorW.PrintWords Go.Proofs.YtbffgpfkgmhmhaaGreatDoorW.PrintLast Go.Proofs.YtbffgpfkgmhmhaaGreatDoorW.PrintMore Go.Proofs.Dk
set_option maxRecDepth 100000
def pcOf (s : PS) : PC := ⟨s.wr, onI s.dn, onI s.dn, 0⟩
def DidP (w : World) (k : PW) (L : Lf) (r : PS × Nat) (e : Ending) (w' : World) : Prop :=
  e = .returned (.int .i64 (r.2 : Int)) ∧ Below k.base w w' ∧ ∃ L', fs L' = r.1.l ∧ IsP w' k L' (pcOf r.1) ∧ TurnP w w' k L L'
theorem down_s (w : World) {k : PW} {L : Lf} {s : PS} (h : IsP w k L (pcOf s)) : Calls Tryz.prog 84 #[.pointer (some ⟨k.pb, 0, none⟩)] w fun e w' => e = .returned (.bool s.dn) ∧ w' = w := by
  refine (down_calls w h).mono ?_
  rintro e w' ⟨rfl, rfl⟩
  refine ⟨?_, rfl⟩
  cases hd : s.dn <;> simp [pcOf, onI, hd] <;> rfl
theorem add_zero' (ad : Addr) : ad.add 0 = ad := by
  obtain ⟨b, o, e⟩ := ad
  cases e <;> simp [Addr.add]
theorem pw_off {fuse : Int} {keep : List Int} {f : FS → FS × Nat} {s : PS} (h : s.dn = true) : pw fuse keep f s = (s, 8) := by simp [pw, h]
theorem pw_miss {fuse : Int} {keep : List Int} {f : FS → FS × Nat} {s : PS} (h : s.dn = false) (h2 : ¬ (s.wr : Int) = fuse) : pw fuse keep f s = (⟨(f s.l).1, s.wr + 1, false⟩, (f s.l).2) := by simp [pw, h, h2]
theorem pw_hit {fuse : Int} {keep : List Int} {f : FS → FS × Nat} {s : PS} (h : s.dn = false) (h2 : (s.wr : Int) = fuse) : pw fuse keep f s = (⟨crash keep (if oddK keep then (f s.l).1 else s.l), s.wr + 1, true⟩, 8) := by simp [pw, h, h2]
theorem write_no (w : World) {p : Option Addr} (h : NoP w p) (fv : Value) : Calls Tryz.prog 64 #[.pointer p, fv] w fun e w' => e = .returned (.int .i64 1) ∧ w' = w := by
  go_enter Tryz.func64, Tryz.ntmps64
  go_wp2_with (first | (go_at_call 67; refine (isp_no _ h).mono ?_; rintro e w' ⟨rfl, hw'⟩; obtain rfl := hw'.symm))
  go_ret
  exact ⟨rfl, rfl⟩
set_option maxHeartbeats 2000000 in
theorem write_calls (w : World) {k : PW} {L : Lf} {s : PS} (h : IsP w k L (pcOf s)) (hl : fs L = s.l) (hwr : s.wr < 1000000000) (hfu : -9223372036854775808 ≤ k.fuse ∧ k.fuse ≤ 9223372036854775807) (F : FuncId) (caps : Array Value)
    (hrun : ∀ W, (callFunc F caps).run Tryz.prog W = .ok (.enter F caps) W) (f : FS → FS × Nat) (Bx : World → Prop) (hBx : Bx w) (hBd : ∀ W, Bx W → Bx W.drew) (hBs : ∀ W, Bx W → ∀ v, Bx (W.setCell ⟨k.pb, 3, none⟩ v))
    (hcb : ∀ W L1 c1, IsP W k L1 c1 → Bx W → Calls Tryz.prog F caps W (DidT W k.base k.d k.mb k.q L1 (f (fs L1)))) :
    Calls Tryz.prog 64 #[.pointer (some ⟨k.pb, 0, none⟩), .func (.func F) #[] caps] w (DidP w k L (pw k.fuse k.keep f s)) := by
  have HI := Lib.hid (isp_calls _ h)
  have HDn := Lib.hid (down_s _ h)
  have H := Lib.hid h
  have HL := Lib.hid hl
  have HCb := Lib.hid hcb
  have HBx := Lib.hid (hBs _ (hBd _ hBx) (.int .i64 ((s.wr : Int) + 1)))
  clear hcb hBs hBd hBx hl
  cases hd : s.dn with
  | true =>
    have hr := Lib.hid (pw_off (fuse := k.fuse) (keep := k.keep) (f := f) hd)
    rw [hd] at HDn
    clear h hrun hd
    go_enter Tryz.func64, Tryz.ntmps64
    go_wp2_with (first | (go_at_call 67; refine HI.out.mono ?_; rintro e w' ⟨rfl, hw'⟩; obtain rfl := hw'.symm) | (go_at_call 84; refine HDn.out.mono ?_; rintro e w' ⟨rfl, hw'⟩; obtain rfl := hw'.symm))
    go_ret
    exact ⟨by rw [hr.out]; rfl, Below.refl _ _, L, by rw [hr.out]; exact HL.out, by rw [hr.out]; exact H.out, .of_below (Below.refl _ _) k L⟩
  | false =>
    rw [hd] at HDn
    have c1 := h.drew.c 1 (v := .int .i64 k.fuse) rfl
    have c3 := h.drew.c 3 (v := .int .i64 s.wr) rfl
    have z3 := h.drew.fz 3
    have hw1 : IntKind.i64.wrap ((s.wr : Int) + 1) = (s.wr : Int) + 1 := IntWalk.i64_in _ ⟨by omega, by omega⟩
    have hP1 := h.drew.set 3 (.int .i64 ((s.wr : Int) + 1)) (c' := ⟨(s.wr : Int) + 1, onI s.dn, onI s.dn, 0⟩) rfl
    have hc1 := hP1.c 1 (v := .int .i64 k.fuse) rfl
    rw [hd] at hP1
    have hP1' : IsP (w.drew.setCell ⟨k.pb, 3, none⟩ (.int .i64 ((s.wr : Int) + 1))) k L (pcOf ⟨s.l, s.wr + 1, false⟩) := by
      have e : pcOf ⟨s.l, s.wr + 1, false⟩ = ⟨(s.wr : Int) + 1, onI false, onI false, 0⟩ := by simp [pcOf]
      rw [e]; exact hP1
    have HP1 := Lib.hid hP1'
    have HB1 := Lib.hid ((Below.refl k.base w).drew.setCell (p := ⟨k.pb, 3, none⟩) h.low (.int .i64 ((s.wr : Int) + 1)))
    have HT1 := Lib.hid ((TurnP.of_below (Below.refl _ w).drew k L).set 3 (.int .i64 ((s.wr : Int) + 1)))
    clear h hP1 hP1'
    by_cases hm : (s.wr : Int) = k.fuse
    · have hr := Lib.hid (pw_hit (keep := k.keep) (f := f) hd hm)
      have hw2 : IntKind.i64.wrap (k.fuse + 1) = k.fuse + 1 := IntWalk.i64_in _ ⟨by omega, by omega⟩
      have d1 : ((s.wr : Int) + 1 != k.fuse + 1) = false := by simp; omega
      have d2 : decide (k.fuse < 0) = false := decide_eq_false (by omega)
      clear hd hm
      go_enter Tryz.func64, Tryz.ntmps64
      go_wp2_with (first | (go_at_call 67; refine HI.out.mono ?_; rintro e w' ⟨rfl, hw'⟩; obtain rfl := hw'.symm) | (go_at_call 84; refine HDn.out.mono ?_; rintro e w' ⟨rfl, hw'⟩; obtain rfl := hw'.symm))
      refine start_ (n := 17) (S := (fun w' => w'.cell? ⟨k.pb, 1, none⟩ = some (.int .i64 k.fuse))) (ds := []) #[false, false, false, false, false, false, false, false, false, false, false, false, false, false, false, false, false] (by kernel_rfl) rfl rfl c1 (fun hHeld => ?_)
      refine pure_ (i := 0) (N := some 12) (v := ?_) (a' := ?_) #[true, false, false, false, false, false, false, false, false, false, false, false, false, false, false, false, false] rfl rfl (by kernel_rfl) (fun _ _ _ h => h) (Or.inl ⟨by rfl, ?_⟩) ?_ ?_
      rotate_left
      · intro w'
        go_simp
        with_reducible rfl
      rotate_left
      · simp only [Act.put, List.setIfInBounds_toArray, List.set_cons_zero, List.set_cons_succ, i64_w, i32_w]
        rfl
      refine pure_ (i := 1) (N := some 13) (v := ?_) (a' := ?_) #[true, true, false, false, false, false, false, false, false, false, false, false, false, false, false, false, false] rfl rfl (by kernel_rfl) (fun _ _ _ h => h) (Or.inl ⟨by rfl, ?_⟩) ?_ ?_
      rotate_left
      · intro w'
        go_simp
        with_reducible rfl
      rotate_left
      · simp only [Act.put, List.setIfInBounds_toArray, List.set_cons_zero, List.set_cons_succ, i64_w, i32_w]
        rfl
      refine pure_ (i := 2) (N := some 14) (v := ?_) (a' := ?_) #[true, true, true, false, false, false, false, false, false, false, false, false, false, false, false, false, false] rfl rfl (by kernel_rfl) (fun _ _ _ h => h) (Or.inl ⟨by rfl, ?_⟩) ?_ ?_
      rotate_left
      · intro w'
        go_simp
        with_reducible rfl
      rotate_left
      · simp only [Act.put, List.setIfInBounds_toArray, List.set_cons_zero, List.set_cons_succ, i64_w, i32_w]
        rfl
      refine pure_ (i := 4) (N := some 16) (v := ?_) (a' := ?_) #[true, true, true, false, true, false, false, false, false, false, false, false, false, false, false, false, false] rfl rfl (by kernel_rfl) (fun _ _ _ h => h) (Or.inl ⟨by rfl, ?_⟩) ?_ ?_
      rotate_left
      · intro w'
        go_simp
        with_reducible rfl
      rotate_left
      · simp only [Act.put, List.setIfInBounds_toArray, List.set_cons_zero, List.set_cons_succ, i64_w, i32_w]
        rfl
      refine pure_ (i := 5) (N := some 17) (v := ?_) (a' := ?_) #[true, true, true, false, true, true, false, false, false, false, false, false, false, false, false, false, false] rfl rfl (by kernel_rfl) (fun _ _ _ h => h) (Or.inl ⟨by rfl, ?_⟩) ?_ ?_
      rotate_left
      · intro w'
        go_simp
        with_reducible rfl
      rotate_left
      · simp only [Act.put, List.setIfInBounds_toArray, List.set_cons_zero, List.set_cons_succ, i64_w, i32_w]
        rfl
      refine pure_ (i := 6) (N := some 18) (v := ?_) (a' := ?_) #[true, true, true, false, true, true, true, false, false, false, false, false, false, false, false, false, false] rfl rfl (by kernel_rfl) (fun _ _ _ h => h) (Or.inl ⟨by rfl, ?_⟩) ?_ ?_
      rotate_left
      · intro w'
        go_simp
        with_reducible rfl
      rotate_left
      · simp only [Act.put, List.setIfInBounds_toArray, List.set_cons_zero, List.set_cons_succ, i64_w, i32_w]
        rfl
      refine take_ (i := 7) (N := some 19) (v := ?_) (a' := ?_) #[true, true, true, false, true, true, true, true, false, false, false, false, false, false, false, false, false] rfl rfl (by kernel_rfl) (fun _ _ _ h => h) (Or.inl ⟨by rfl, ?_⟩) hHeld ?_ ?_
      rotate_left
      · rintro w' hS1
        go_simp
        with_reducible rfl
      rotate_left
      · simp only [Act.put, List.setIfInBounds_toArray, List.set_cons_zero, List.set_cons_succ, i64_w, i32_w]
        rfl
      refine pure_ (i := 8) (N := some 20) (v := ?_) (a' := ?_) #[true, true, true, false, true, true, true, true, true, false, false, false, false, false, false, false, false] rfl rfl (by kernel_rfl) (fun _ _ _ h => h) (Or.inl ⟨by rfl, ?_⟩) ?_ ?_
      rotate_left
      · intro w'
        go_simp
        with_reducible rfl
      rotate_left
      · simp only [Act.put, List.setIfInBounds_toArray, List.set_cons_zero, List.set_cons_succ, i64_w, i32_w]
        rfl
      refine one_ (i := 3) (N := some 15) #[true, true, true, true, true, true, true, true, true, false, false, false, false, false, false, false, false] rfl rfl (by kernel_rfl) (by decide) (fun K hK => ?_)
      refine goes_ Tryz.func106 (by kernel_rfl) rfl #[.pointer (some ⟨k.pb, 3, none⟩), .int .i64 1] (by rfl) rfl rfl (by simp only [List.map_toArray, List.map_cons, List.map_nil]; rfl) ?_
      refine (aadd_calls _ ⟨k.pb, 3, none⟩ _ (s.wr + 1) c3 z3 hw1).mono ?_
      rintro e w5 ⟨rfl, rfl⟩
      refine ⟨_, rfl, ?_⟩
      refine hK.out _ _ hc1 (fun hHeld => ?_)
      clear hK K
      refine norm_ (a' := ?_) ?_ ?_
      rotate_left
      · show Act.put _ (some 15) _ = _
        simp only [Act.put, List.setIfInBounds_toArray, List.set_cons_zero, List.set_cons_succ, i64_w, i32_w]
        rfl
      refine pure_ (i := 9) (N := some 21) (v := ?_) (a' := ?_) #[true, true, true, true, true, true, true, true, true, true, false, false, false, false, false, false, false] rfl rfl (by kernel_rfl) (fun _ _ _ h => h) (Or.inl ⟨by rfl, ?_⟩) ?_ ?_
      rotate_left
      · intro w'
        go_simp
        with_reducible rfl
      rotate_left
      · simp only [Act.put, List.setIfInBounds_toArray, List.set_cons_zero, List.set_cons_succ, i64_w, i32_w]
        rfl
      refine pure_ (i := 10) (N := some 22) (v := ?_) (a' := ?_) #[true, true, true, true, true, true, true, true, true, true, true, false, false, false, false, false, false] rfl rfl (by kernel_rfl) (fun _ _ _ h => h) (Or.inl ⟨by rfl, ?_⟩) ?_ ?_
      rotate_left
      · intro w'
        go_simp
        with_reducible rfl
      rotate_left
      · simp only [Act.put, List.setIfInBounds_toArray, List.set_cons_zero, List.set_cons_succ, i64_w, i32_w]
        rfl
      refine pure_ (i := 11) (N := some 23) (v := ?_) (a' := ?_) #[true, true, true, true, true, true, true, true, true, true, true, true, false, false, false, false, false] rfl rfl (by kernel_rfl) (fun _ _ _ h => h) (Or.inl ⟨by rfl, ?_⟩) ?_ ?_
      rotate_left
      · intro w'
        go_simp
        with_reducible rfl
      rotate_left
      · simp only [Act.put, List.setIfInBounds_toArray, List.set_cons_zero, List.set_cons_succ, i64_w, i32_w]
        rfl
      refine pure_ (i := 12) (N := some 24) (v := ?_) (a' := ?_) #[true, true, true, true, true, true, true, true, true, true, true, true, true, false, false, false, false] rfl rfl (by kernel_rfl) (fun _ _ _ h => h) (Or.inl ⟨by rfl, ?_⟩) ?_ ?_
      rotate_left
      · intro w'
        go_simp
        with_reducible rfl
      rotate_left
      · simp only [Act.put, List.setIfInBounds_toArray, List.set_cons_zero, List.set_cons_succ, i64_w, i32_w]
        rfl
      refine pure_ (i := 13) (N := some 25) (v := ?_) (a' := ?_) #[true, true, true, true, true, true, true, true, true, true, true, true, true, true, false, false, false] rfl rfl (by kernel_rfl) (fun _ _ _ h => h) (Or.inl ⟨by rfl, ?_⟩) ?_ ?_
      rotate_left
      · intro w'
        go_simp
        with_reducible rfl
      rotate_left
      · simp only [Act.put, List.setIfInBounds_toArray, List.set_cons_zero, List.set_cons_succ, i64_w, i32_w]
        rfl
      refine take_ (i := 14) (N := some 26) (v := ?_) (a' := ?_) #[true, true, true, true, true, true, true, true, true, true, true, true, true, true, true, false, false] rfl rfl (by kernel_rfl) (fun _ _ _ h => h) (Or.inl ⟨by rfl, ?_⟩) hHeld ?_ ?_
      rotate_left
      · rintro w' hS1
        go_simp
        with_reducible rfl
      rotate_left
      · simp only [Act.put, List.setIfInBounds_toArray, List.set_cons_zero, List.set_cons_succ, i64_w, i32_w]
        rfl
      refine pure_ (i := 15) (N := some 27) (v := ?_) (a' := ?_) #[true, true, true, true, true, true, true, true, true, true, true, true, true, true, true, true, false] rfl rfl (by kernel_rfl) (fun _ _ _ h => h) (Or.inl ⟨by rfl, ?_⟩) ?_ ?_
      rotate_left
      · intro w'
        go_simp
        with_reducible rfl
      rotate_left
      · simp only [Act.put, List.setIfInBounds_toArray, List.set_cons_zero, List.set_cons_succ, i64_w, i32_w]
        rfl
      refine pure_ (i := 16) (N := some 28) (v := ?_) (a' := ?_) #[true, true, true, true, true, true, true, true, true, true, true, true, true, true, true, true, true] rfl rfl (by kernel_rfl) (fun _ _ _ h => h) (Or.inl ⟨by rfl, ?_⟩) ?_ ?_
      rotate_left
      · intro w'
        go_simp
        with_reducible rfl
      rotate_left
      · simp only [Act.put, List.setIfInBounds_toArray, List.set_cons_zero, List.set_cons_succ, i64_w, i32_w]
        rfl
      refine done_ (by kernel_rfl) ?_
      have hf1 : fs L = s.l := HL.out
      generalize (w.drew.setCell ⟨k.pb, 3, none⟩ (.int .i64 ((s.wr : Int) + 1))) = W1 at *
      clear c1 c3 z3 hw1 hw2 hc1 hHeld
      cases hk : k.keep with
      | nil =>
        rw [hk] at hr
        have c2 : W1.cell? ⟨k.pb, 2, none⟩ = some (.slice k.A (0 : Nat) k.cap) := by have := HP1.out.c 2 (v := .slice k.A k.keep.length k.cap) rfl; rw [hk] at this; exact this
        go_wp2_with fail
        refine (blow_on _ HP1.out rfl rfl).mono ?_
        rintro e w5 ⟨⟨v, rfl⟩, L', hL', hP5, hB5, hT5⟩
        have HP5 := Lib.hid hP5
        have HB5 := Lib.hid (HB1.out.trans hB5)
        have HT5 := Lib.hid (HT1.out.trans hT5)
        have HL5 := Lib.hid hL'
        clear hB5 hP5 hT5 hL'
        go_wp2_with fail
        go_ret
        rw [hk, hr.out]
        refine ⟨rfl, HB5.out, L', ?_, HP5.out, HT5.out⟩
        rw [HL5.out, hk, HL.out]
        rfl
      | cons x r =>
        have c2 : W1.cell? ⟨k.pb, 2, none⟩ = some (.slice k.A ((r.length + 1 : Nat)) k.cap) := by have := HP1.out.c 2 (v := .slice k.A k.keep.length k.cap) rfl; rw [hk] at this; exact this
        obtain ⟨ad, hA, hx0, _, _⟩ := HP1.out.kept 0 (by rw [hk]; simp)
        have hx : W1.cell? ad = some (.int .i64 x) := by rw [add_zero'] at hx0; simpa [hk] using hx0
        rw [hA] at c2
        clear hx0
        cases hodd : (bits .and .i64 x 1 == 1) with
        | false =>
          have ho : oddK (x :: r) = false := hodd
          rw [hk, ho] at hr
          go_wp2_with fail
          refine (blow_on _ HP1.out rfl rfl).mono ?_
          rintro e w5 ⟨⟨v, rfl⟩, L', hL', hP5, hB5, hT5⟩
          have HP5 := Lib.hid hP5
          have HB5 := Lib.hid (HB1.out.trans hB5)
          have HT5 := Lib.hid (HT1.out.trans hT5)
          have HL5 := Lib.hid hL'
          clear hB5 hP5 hT5 hL'
          go_wp2_with fail
          go_ret
          rw [hk, hr.out]
          refine ⟨rfl, HB5.out, L', ?_, HP5.out, HT5.out⟩
          rw [HL5.out, hk, HL.out]
          rfl
        | true =>
          have ho : oddK (x :: r) = true := hodd
          rw [hk, ho] at hr
          go_wp2_with fail
          refine (HCb.out _ L _ HP1.out HBx.out).mono ?_
          rintro e w4 ⟨rfl, hB4, L4, hL4, hD4, hT4⟩
          have HP4 := Lib.hid (HP1.out.turned hD4 hT4)
          have HB4 := Lib.hid (HB1.out.trans hB4)
          have HT4 := Lib.hid (HT1.out.trans hT4.p)
          have HL4 := Lib.hid hL4
          clear hB4 hD4 hT4 hL4
          go_wp2_with fail
          refine (blow_on _ HP4.out rfl rfl).mono ?_
          rintro e w5 ⟨⟨v, rfl⟩, L', hL', hP5, hB5, hT5⟩
          have HP5 := Lib.hid hP5
          have HB5 := Lib.hid (HB4.out.trans hB5)
          have HT5 := Lib.hid (HT4.out.trans hT5)
          have HL5 := Lib.hid hL'
          clear hB5 hP5 hT5 hL'
          go_wp2_with fail
          go_ret
          rw [hk, hr.out]
          refine ⟨rfl, HB5.out, L', ?_, HP5.out, HT5.out⟩
          rw [HL5.out, hk, HL4.out, HL.out]
          rfl
    · have hr := Lib.hid (pw_miss (keep := k.keep) (f := f) hd hm)
      obtain ⟨fz, hw2, hfz⟩ : ∃ fz, IntKind.i64.wrap (k.fuse + 1) = fz ∧ (s.wr : Int) + 1 ≠ fz := by
        by_cases hx : k.fuse = 9223372036854775807
        · exact ⟨-9223372036854775808, by rw [hx]; decide, by omega⟩
        · exact ⟨k.fuse + 1, IntWalk.i64_in _ ⟨by omega, by omega⟩, by omega⟩
      have d1 : ((s.wr : Int) + 1 != fz) = true := by simp; omega
      clear hd hm
      go_enter Tryz.func64, Tryz.ntmps64
      go_wp2_with (first | (go_at_call 67; refine HI.out.mono ?_; rintro e w' ⟨rfl, hw'⟩; obtain rfl := hw'.symm) | (go_at_call 84; refine HDn.out.mono ?_; rintro e w' ⟨rfl, hw'⟩; obtain rfl := hw'.symm))
      refine start_ (n := 17) (S := (fun w' => w'.cell? ⟨k.pb, 1, none⟩ = some (.int .i64 k.fuse))) (ds := []) #[false, false, false, false, false, false, false, false, false, false, false, false, false, false, false, false, false] (by kernel_rfl) rfl rfl c1 (fun hHeld => ?_)
      refine pure_ (i := 0) (N := some 12) (v := ?_) (a' := ?_) #[true, false, false, false, false, false, false, false, false, false, false, false, false, false, false, false, false] rfl rfl (by kernel_rfl) (fun _ _ _ h => h) (Or.inl ⟨by rfl, ?_⟩) ?_ ?_
      rotate_left
      · intro w'
        go_simp
        with_reducible rfl
      rotate_left
      · simp only [Act.put, List.setIfInBounds_toArray, List.set_cons_zero, List.set_cons_succ, i64_w, i32_w]
        rfl
      refine pure_ (i := 1) (N := some 13) (v := ?_) (a' := ?_) #[true, true, false, false, false, false, false, false, false, false, false, false, false, false, false, false, false] rfl rfl (by kernel_rfl) (fun _ _ _ h => h) (Or.inl ⟨by rfl, ?_⟩) ?_ ?_
      rotate_left
      · intro w'
        go_simp
        with_reducible rfl
      rotate_left
      · simp only [Act.put, List.setIfInBounds_toArray, List.set_cons_zero, List.set_cons_succ, i64_w, i32_w]
        rfl
      refine pure_ (i := 2) (N := some 14) (v := ?_) (a' := ?_) #[true, true, true, false, false, false, false, false, false, false, false, false, false, false, false, false, false] rfl rfl (by kernel_rfl) (fun _ _ _ h => h) (Or.inl ⟨by rfl, ?_⟩) ?_ ?_
      rotate_left
      · intro w'
        go_simp
        with_reducible rfl
      rotate_left
      · simp only [Act.put, List.setIfInBounds_toArray, List.set_cons_zero, List.set_cons_succ, i64_w, i32_w]
        rfl
      refine pure_ (i := 4) (N := some 16) (v := ?_) (a' := ?_) #[true, true, true, false, true, false, false, false, false, false, false, false, false, false, false, false, false] rfl rfl (by kernel_rfl) (fun _ _ _ h => h) (Or.inl ⟨by rfl, ?_⟩) ?_ ?_
      rotate_left
      · intro w'
        go_simp
        with_reducible rfl
      rotate_left
      · simp only [Act.put, List.setIfInBounds_toArray, List.set_cons_zero, List.set_cons_succ, i64_w, i32_w]
        rfl
      refine pure_ (i := 5) (N := some 17) (v := ?_) (a' := ?_) #[true, true, true, false, true, true, false, false, false, false, false, false, false, false, false, false, false] rfl rfl (by kernel_rfl) (fun _ _ _ h => h) (Or.inl ⟨by rfl, ?_⟩) ?_ ?_
      rotate_left
      · intro w'
        go_simp
        with_reducible rfl
      rotate_left
      · simp only [Act.put, List.setIfInBounds_toArray, List.set_cons_zero, List.set_cons_succ, i64_w, i32_w]
        rfl
      refine pure_ (i := 6) (N := some 18) (v := ?_) (a' := ?_) #[true, true, true, false, true, true, true, false, false, false, false, false, false, false, false, false, false] rfl rfl (by kernel_rfl) (fun _ _ _ h => h) (Or.inl ⟨by rfl, ?_⟩) ?_ ?_
      rotate_left
      · intro w'
        go_simp
        with_reducible rfl
      rotate_left
      · simp only [Act.put, List.setIfInBounds_toArray, List.set_cons_zero, List.set_cons_succ, i64_w, i32_w]
        rfl
      refine take_ (i := 7) (N := some 19) (v := ?_) (a' := ?_) #[true, true, true, false, true, true, true, true, false, false, false, false, false, false, false, false, false] rfl rfl (by kernel_rfl) (fun _ _ _ h => h) (Or.inl ⟨by rfl, ?_⟩) hHeld ?_ ?_
      rotate_left
      · rintro w' hS1
        go_simp
        with_reducible rfl
      rotate_left
      · simp only [Act.put, List.setIfInBounds_toArray, List.set_cons_zero, List.set_cons_succ, i64_w, i32_w]
        rfl
      refine pure_ (i := 8) (N := some 20) (v := ?_) (a' := ?_) #[true, true, true, false, true, true, true, true, true, false, false, false, false, false, false, false, false] rfl rfl (by kernel_rfl) (fun _ _ _ h => h) (Or.inl ⟨by rfl, ?_⟩) ?_ ?_
      rotate_left
      · intro w'
        go_simp
        with_reducible rfl
      rotate_left
      · simp only [Act.put, List.setIfInBounds_toArray, List.set_cons_zero, List.set_cons_succ, i64_w, i32_w]
        rfl
      refine one_ (i := 3) (N := some 15) #[true, true, true, true, true, true, true, true, true, false, false, false, false, false, false, false, false] rfl rfl (by kernel_rfl) (by decide) (fun K hK => ?_)
      refine goes_ Tryz.func106 (by kernel_rfl) rfl #[.pointer (some ⟨k.pb, 3, none⟩), .int .i64 1] (by rfl) rfl rfl (by simp only [List.map_toArray, List.map_cons, List.map_nil]; rfl) ?_
      refine (aadd_calls _ ⟨k.pb, 3, none⟩ _ (s.wr + 1) c3 z3 hw1).mono ?_
      rintro e w5 ⟨rfl, rfl⟩
      refine ⟨_, rfl, ?_⟩
      refine hK.out _ _ hc1 (fun hHeld => ?_)
      clear hK K
      refine norm_ (a' := ?_) ?_ ?_
      rotate_left
      · show Act.put _ (some 15) _ = _
        simp only [Act.put, List.setIfInBounds_toArray, List.set_cons_zero, List.set_cons_succ, i64_w, i32_w]
        rfl
      refine pure_ (i := 9) (N := some 21) (v := ?_) (a' := ?_) #[true, true, true, true, true, true, true, true, true, true, false, false, false, false, false, false, false] rfl rfl (by kernel_rfl) (fun _ _ _ h => h) (Or.inl ⟨by rfl, ?_⟩) ?_ ?_
      rotate_left
      · intro w'
        go_simp
        with_reducible rfl
      rotate_left
      · simp only [Act.put, List.setIfInBounds_toArray, List.set_cons_zero, List.set_cons_succ, i64_w, i32_w]
        rfl
      refine pure_ (i := 10) (N := some 22) (v := ?_) (a' := ?_) #[true, true, true, true, true, true, true, true, true, true, true, false, false, false, false, false, false] rfl rfl (by kernel_rfl) (fun _ _ _ h => h) (Or.inl ⟨by rfl, ?_⟩) ?_ ?_
      rotate_left
      · intro w'
        go_simp
        with_reducible rfl
      rotate_left
      · simp only [Act.put, List.setIfInBounds_toArray, List.set_cons_zero, List.set_cons_succ, i64_w, i32_w]
        rfl
      refine pure_ (i := 11) (N := some 23) (v := undef) #[true, true, true, true, true, true, true, true, true, true, true, true, false, false, false, false, false] rfl rfl (by kernel_rfl) (fun _ _ _ h => h) (Or.inr ⟨by rfl, rfl⟩) rfl ?_
      refine norm_ (a' := ?_) ?_ ?_
      rotate_left
      · show Act.put _ (some 23) _ = _
        simp only [Act.put, List.setIfInBounds_toArray, List.set_cons_zero, List.set_cons_succ, i64_w, i32_w]
        rfl
      refine pure_ (i := 12) (N := some 24) (v := undef) #[true, true, true, true, true, true, true, true, true, true, true, true, true, false, false, false, false] rfl rfl (by kernel_rfl) (fun _ _ _ h => h) (Or.inr ⟨by rfl, rfl⟩) rfl ?_
      refine norm_ (a' := ?_) ?_ ?_
      rotate_left
      · show Act.put _ (some 24) _ = _
        simp only [Act.put, List.setIfInBounds_toArray, List.set_cons_zero, List.set_cons_succ, i64_w, i32_w]
        rfl
      refine pure_ (i := 13) (N := some 25) (v := undef) #[true, true, true, true, true, true, true, true, true, true, true, true, true, true, false, false, false] rfl rfl (by kernel_rfl) (fun _ _ _ h => h) (Or.inr ⟨by rfl, rfl⟩) rfl ?_
      refine norm_ (a' := ?_) ?_ ?_
      rotate_left
      · show Act.put _ (some 25) _ = _
        simp only [Act.put, List.setIfInBounds_toArray, List.set_cons_zero, List.set_cons_succ, i64_w, i32_w]
        rfl
      refine pure_ (i := 14) (N := some 26) (v := undef) #[true, true, true, true, true, true, true, true, true, true, true, true, true, true, true, false, false] rfl rfl (by kernel_rfl) (fun _ _ _ h => h) (Or.inr ⟨by rfl, rfl⟩) rfl ?_
      refine norm_ (a' := ?_) ?_ ?_
      rotate_left
      · show Act.put _ (some 26) _ = _
        simp only [Act.put, List.setIfInBounds_toArray, List.set_cons_zero, List.set_cons_succ, i64_w, i32_w]
        rfl
      refine pure_ (i := 15) (N := some 27) (v := undef) #[true, true, true, true, true, true, true, true, true, true, true, true, true, true, true, true, false] rfl rfl (by kernel_rfl) (fun _ _ _ h => h) (Or.inr ⟨by rfl, rfl⟩) rfl ?_
      refine norm_ (a' := ?_) ?_ ?_
      rotate_left
      · show Act.put _ (some 27) _ = _
        simp only [Act.put, List.setIfInBounds_toArray, List.set_cons_zero, List.set_cons_succ, i64_w, i32_w]
        rfl
      refine pure_ (i := 16) (N := some 28) (v := ?_) (a' := ?_) #[true, true, true, true, true, true, true, true, true, true, true, true, true, true, true, true, true] rfl rfl (by kernel_rfl) (fun _ _ _ h => h) (Or.inl ⟨by rfl, ?_⟩) ?_ ?_
      rotate_left
      · intro w'
        go_simp
        with_reducible rfl
      rotate_left
      · simp only [Act.put, List.setIfInBounds_toArray, List.set_cons_zero, List.set_cons_succ, i64_w, i32_w]
        rfl
      refine done_ (by kernel_rfl) ?_
      have hf1 : fs L = s.l := HL.out
      generalize (w.drew.setCell ⟨k.pb, 3, none⟩ (.int .i64 ((s.wr : Int) + 1))) = W1 at *
      clear c1 c3 z3 hw1 hw2 hc1 hHeld
      go_wp2_with fail
      refine (HCb.out _ L _ HP1.out HBx.out).mono ?_
      rintro e w5 ⟨rfl, hB5, L', hL', hD5, hT5⟩
      have HP5 := Lib.hid (HP1.out.turned hD5 hT5)
      have HB5 := Lib.hid (HB1.out.trans hB5)
      have HT5 := Lib.hid (HT1.out.trans hT5.p)
      have HL5 := Lib.hid hL'
      clear hB5 hD5 hT5 hL'
      go_wp2_with fail
      go_ret
      rw [hr.out]
      refine ⟨by rw [← HL.out]; rfl, HB5.out, L', by rw [HL5.out, HL.out], HP5.out, HT5.out⟩
/-! ### Create, Append, Sync -/
theorem enters (f : FuncId) (caps : Array Value) {fn : Func} (hf : Tryz.prog.funcs[f]? = some fn) (hname : (fn.name == "runtime.NumGoroutine") = false) (hb : fn.body.isSome = true) (W : World) : (callFunc f caps).run Tryz.prog W = .ok (.enter f caps) W := enters_ hf hname hb caps W
/-- Two boxes: the power's, a text's. -/
def Box2 (p n : Value) (x : Nat) (W : World) : Prop := W.cell? ⟨x, 0, none⟩ = some p ∧ W.cell? ⟨x + 1, 0, none⟩ = some n
theorem box_set {W : World} {x pb j : Nat} {v u : Value} (h : W.cell? ⟨x, 0, none⟩ = some v) (hx : x ≠ pb) : (W.setCell ⟨pb, j, none⟩ u).cell? ⟨x, 0, none⟩ = some v := (cell_of_block (Below.heap_setCell _ _ _ _ hx)).trans h
theorem box2_new (w : World) (p : Value) (t : TypeId) (n : Value) : Box2 p n w.heap.size ((w.alloc (.cells #[p] t)).alloc (.cells #[n] 9)) := ⟨by simp, by simp⟩
/-- Three. -/
def Box3 (p n b : Value) (x : Nat) (W : World) : Prop := W.cell? ⟨x, 0, none⟩ = some p ∧ W.cell? ⟨x + 1, 0, none⟩ = some n ∧ W.cell? ⟨x + 2, 0, none⟩ = some b
theorem box3_new (w : World) (p : Value) (t : TypeId) (n b : Value) : Box3 p n b w.heap.size (((w.alloc (.cells #[p] t)).alloc (.cells #[n] 9)).alloc (.cells #[b] 9)) :=
  ⟨cell_below (box2_new w p t n).1 ((Below.refl _ _).alloc (Nat.le_refl _) _), cell_below (box2_new w p t n).2 ((Below.refl _ _).alloc (Nat.le_refl _) _), by
    have := cell_new_l3 (w.alloc (.cells #[p] t)) (.cells #[n] 9) b 9
    rw [World.size_alloc] at this
    exact this⟩
set_option maxHeartbeats 1000000 in
theorem pcreate_calls (w : World) {k : PW} {L : Lf} {s : PS} (h : IsP w k L (pcOf s)) (hl : fs L = s.l) (hwr : s.wr < 1000000000) (hfu : -9223372036854775808 ≤ k.fuse ∧ k.fuse ≤ 9223372036854775807) (n : Tx) :
    Calls Tryz.prog 58 #[.pointer (some ⟨k.pb, 0, none⟩), .string (bs n)] w (DidP w k L (pw k.fuse k.keep (fun l => create l n) s)) := by
  obtain ⟨W, hW⟩ : ∃ W, (w.alloc (.cells #[.pointer (some ⟨k.pb, 0, none⟩)] 40)).alloc (.cells #[.string (bs n)] 9) = W := ⟨_, rfl⟩
  have hB1 : Below w.heap.size w W := by rw [← hW]; exact ((Below.refl _ w).alloc (Nat.le_refl _) _).alloc (by simp) _
  have hbx : Box2 (.pointer (some ⟨k.pb, 0, none⟩)) (.string (bs n)) w.heap.size W := by
    rw [← hW]
    exact box2_new w _ 40 _
  have hpl := heap_lt h.top
  have HWr := Lib.hid (write_calls W (h.below hB1) hl hwr hfu 100 #[.pointer (some ⟨w.heap.size, 0, none⟩), .pointer (some ⟨w.heap.size + 1, 0, none⟩)] (enters 100 _ Tryz.func100 (by kernel_rfl) rfl) (fun l => create l n) (Box2 (.pointer (some ⟨k.pb, 0, none⟩)) (.string (bs n)) w.heap.size) hbx
    (fun _ h => h) (fun W hh v => ⟨box_set hh.1 (by omega), box_set hh.2 (by omega)⟩) (fun W L1 c1 hP hh => create1_calls W hP _ _ n hh.1 hh.2))
  have HB1 := Lib.hid hB1
  have hsz := h.size
  have hx0 := hbx.1
  clear h hB1 hbx
  go_enter Tryz.func58, Tryz.ntmps58
  go_wp2_with fail
  refine HWr.out.mono ?_
  rintro e w5 ⟨rfl, hB5, L', hL', hP5, hT5⟩
  have HP5 := Lib.hid hP5
  have HB5 := Lib.hid ((HB1.out.mono hsz).trans hB5)
  have HT5 := Lib.hid ((TurnP.of_below HB1.out k L).trans hT5)
  clear hB5 hP5 hT5
  go_wp2_with fail
  go_ret
  exact ⟨rfl, HB5.out, L', hL', HP5.out, HT5.out⟩
set_option maxHeartbeats 1000000 in
theorem psync_calls (w : World) {k : PW} {L : Lf} {s : PS} (h : IsP w k L (pcOf s)) (hl : fs L = s.l) (hwr : s.wr < 1000000000) (hfu : -9223372036854775808 ≤ k.fuse ∧ k.fuse ≤ 9223372036854775807) (n : Tx) :
    Calls Tryz.prog 24 #[.pointer (some ⟨k.pb, 0, none⟩), .string (bs n)] w (DidP w k L (pw k.fuse k.keep (fun l => sync l n) s)) := by
  obtain ⟨W, hW⟩ : ∃ W, (w.alloc (.cells #[.pointer (some ⟨k.pb, 0, none⟩)] 40)).alloc (.cells #[.string (bs n)] 9) = W := ⟨_, rfl⟩
  have hB1 : Below w.heap.size w W := by rw [← hW]; exact ((Below.refl _ w).alloc (Nat.le_refl _) _).alloc (by simp) _
  have hbx : Box2 (.pointer (some ⟨k.pb, 0, none⟩)) (.string (bs n)) w.heap.size W := by
    rw [← hW]
    exact box2_new w _ 40 _
  have hpl := heap_lt h.top
  have HWr := Lib.hid (write_calls W (h.below hB1) hl hwr hfu 65 #[.pointer (some ⟨w.heap.size, 0, none⟩), .pointer (some ⟨w.heap.size + 1, 0, none⟩)] (enters 65 _ Tryz.func65 (by kernel_rfl) rfl) (fun l => sync l n) (Box2 (.pointer (some ⟨k.pb, 0, none⟩)) (.string (bs n)) w.heap.size) hbx
    (fun _ h => h) (fun W hh v => ⟨box_set hh.1 (by omega), box_set hh.2 (by omega)⟩) (fun W L1 c1 hP hh => sync1_calls W hP _ _ n hh.1 hh.2))
  have HB1 := Lib.hid hB1
  have hsz := h.size
  have hx0 := hbx.1
  clear h hB1 hbx
  go_enter Tryz.func24, Tryz.ntmps24
  go_wp2_with fail
  refine HWr.out.mono ?_
  rintro e w5 ⟨rfl, hB5, L', hL', hP5, hT5⟩
  have HP5 := Lib.hid hP5
  have HB5 := Lib.hid ((HB1.out.mono hsz).trans hB5)
  have HT5 := Lib.hid ((TurnP.of_below HB1.out k L).trans hT5)
  clear hB5 hP5 hT5
  go_wp2_with fail
  go_ret
  exact ⟨rfl, HB5.out, L', hL', HP5.out, HT5.out⟩
set_option maxHeartbeats 1000000 in
theorem pappend_calls (w : World) {k : PW} {L : Lf} {s : PS} (h : IsP w k L (pcOf s)) (hl : fs L = s.l) (hwr : s.wr < 1000000000) (hfu : -9223372036854775808 ≤ k.fuse ∧ k.fuse ≤ 9223372036854775807) (n b : Tx) (hb : b.length ≤ 100000) :
    Calls Tryz.prog 60 #[.pointer (some ⟨k.pb, 0, none⟩), .string (bs n), .string (bs b)] w (DidP w k L (pw k.fuse k.keep (fun l => append k.q l n b) s)) := by
  obtain ⟨W, hW⟩ : ∃ W, ((w.alloc (.cells #[.pointer (some ⟨k.pb, 0, none⟩)] 40)).alloc (.cells #[.string (bs n)] 9)).alloc (.cells #[.string (bs b)] 9) = W := ⟨_, rfl⟩
  have hB1 : Below w.heap.size w W := by rw [← hW]; exact (((Below.refl _ w).alloc (Nat.le_refl _) _).alloc (by simp) _).alloc (by simp; omega) _
  have hbx : Box3 (.pointer (some ⟨k.pb, 0, none⟩)) (.string (bs n)) (.string (bs b)) w.heap.size W := by
    rw [← hW]
    exact box3_new w _ 40 _ _
  have hpl := heap_lt h.top
  have HWr := Lib.hid (write_calls W (h.below hB1) hl hwr hfu 102 #[.pointer (some ⟨w.heap.size, 0, none⟩), .pointer (some ⟨w.heap.size + 1, 0, none⟩), .pointer (some ⟨w.heap.size + 2, 0, none⟩)] (enters 102 _ Tryz.func102 (by kernel_rfl) rfl) (fun l => append k.q l n b) (Box3 (.pointer (some ⟨k.pb, 0, none⟩)) (.string (bs n)) (.string (bs b)) w.heap.size) hbx
    (fun _ h => h) (fun W hh v => ⟨box_set hh.1 (by omega), box_set hh.2.1 (by omega), box_set hh.2.2 (by omega)⟩) (fun W L1 c1 hP hh => append1_calls W hP _ _ _ n b hb hh.1 hh.2.1 hh.2.2))
  have HB1 := Lib.hid hB1
  have hsz := h.size
  have hx0 := hbx.1
  clear h hB1 hbx
  go_enter Tryz.func60, Tryz.ntmps60
  go_wp2_with fail
  refine HWr.out.mono ?_
  rintro e w5 ⟨rfl, hB5, L', hL', hP5, hT5⟩
  have HP5 := Lib.hid hP5
  have HB5 := Lib.hid ((HB1.out.mono hsz).trans hB5)
  have HT5 := Lib.hid ((TurnP.of_below HB1.out k L).trans hT5)
  clear hB5 hP5 hT5
  go_wp2_with fail
  go_ret
  exact ⟨rfl, HB5.out, L', hL', HP5.out, HT5.out⟩
/-! ### no power -/
theorem pcreate_no (w : World) {p : Option Addr} (h : NoP w p) (n : Tx) : Calls Tryz.prog 58 #[.pointer p, .string (bs n)] w fun e w' => e = .returned (.int .i64 1) ∧ Below w.heap.size w w' := by
  obtain ⟨W, hW⟩ : ∃ W, (w.alloc (.cells #[.pointer p] 40)).alloc (.cells #[.string (bs n)] 9) = W := ⟨_, rfl⟩
  have hB1 : Below w.heap.size w W := by rw [← hW]; exact ((Below.refl _ w).alloc (Nat.le_refl _) _).alloc (by simp) _
  have hx0 : W.cell? ⟨w.heap.size, 0, none⟩ = some (.pointer p) := by rw [← hW]; exact (box2_new w _ 40 _).1
  have hN : NoP W p := fun a ha => by
    obtain ⟨b, rfl, hc⟩ := h a ha
    exact ⟨b, rfl, cell_below hc hB1⟩
  have HB1 := Lib.hid hB1
  clear hB1 h
  go_enter Tryz.func58, Tryz.ntmps58
  go_wp2_with fail
  refine (write_no W hN _).mono ?_
  rintro e w' ⟨rfl, hw'⟩
  obtain rfl := hw'.symm
  go_wp2_with fail
  go_ret
  exact ⟨rfl, HB1.out⟩
theorem pread_off (w : World) {k : PW} {L : Lf} {s : PS} (h : IsP w k L (pcOf s)) (hd : s.dn = true) (n : Tx) : Calls Tryz.prog 35 #[.pointer (some ⟨k.pb, 0, none⟩), .string (bs n)] w fun e w' => e = .returned (.tuple #[.string ⟨#[]⟩, .int .i64 8]) ∧ w' = w := by
  have HI := Lib.hid (isp_calls _ h)
  have HDn := Lib.hid (down_s _ h)
  rw [hd] at HDn
  clear h hd
  go_enter Tryz.func35, Tryz.ntmps35
  go_wp2_with (first | (go_at_call 67; refine HI.out.mono ?_; rintro e w' ⟨rfl, hw'⟩; obtain rfl := hw'.symm) | (go_at_call 84; refine HDn.out.mono ?_; rintro e w' ⟨rfl, hw'⟩; obtain rfl := hw'.symm))
  go_ret2
  exact ⟨rfl, rfl⟩
theorem plist_no (w : World) {p : Option Addr} (h : NoP w p) : Calls Tryz.prog 92 #[.pointer p] w fun e w' => e = .returned (.slice none 0 0) ∧ w' = w := by
  go_enter Tryz.func92, Tryz.ntmps92
  go_wp2_with (first | (go_at_call 67; refine (isp_no _ h).mono ?_; rintro e w' ⟨rfl, hw'⟩; obtain rfl := hw'.symm))
  go_ret
  exact ⟨rfl, rfl⟩
theorem plist_off (w : World) {k : PW} {L : Lf} {s : PS} (h : IsP w k L (pcOf s)) (hd : s.dn = true) : Calls Tryz.prog 92 #[.pointer (some ⟨k.pb, 0, none⟩)] w fun e w' => e = .returned (.slice none 0 0) ∧ w' = w := by
  have HI := Lib.hid (isp_calls _ h)
  have HDn := Lib.hid (down_s _ h)
  rw [hd] at HDn
  clear h hd
  go_enter Tryz.func92, Tryz.ntmps92
  go_wp2_with (first | (go_at_call 67; refine HI.out.mono ?_; rintro e w' ⟨rfl, hw'⟩; obtain rfl := hw'.symm) | (go_at_call 84; refine HDn.out.mono ?_; rintro e w' ⟨rfl, hw'⟩; obtain rfl := hw'.symm))
  go_ret
  exact ⟨rfl, rfl⟩
theorem plist_calls (w : World) {k : PW} {L : Lf} {s : PS} (h : IsP w k L (pcOf s)) (hd : s.dn = false) : Calls Tryz.prog 92 #[.pointer (some ⟨k.pb, 0, none⟩)] w fun e w' => ∃ v, e = .returned v ∧ w'.ownsRow w.heap.size 9 1 v (fs L).length ((fs L).map (fun p => encS p.1)) ∧ RowKit.Below w.heap.size w w' := by
  have HI := Lib.hid (isp_calls _ h)
  have HDn := Lib.hid (down_s _ h)
  rw [hd] at HDn
  have c0 := h.c 0 (v := .pointer (some ⟨k.d, 0, none⟩)) rfl
  have HLi := Lib.hid (list_calls _ h.disk)
  clear h hd
  go_enter Tryz.func92, Tryz.ntmps92
  go_wp2_with (first | (go_at_call 67; refine HI.out.mono ?_; rintro e w' ⟨rfl, hw'⟩; obtain rfl := hw'.symm) | (go_at_call 84; refine HDn.out.mono ?_; rintro e w' ⟨rfl, hw'⟩; obtain rfl := hw'.symm) | (go_at_call 16; refine HLi.out.mono ?_; rintro e w' ⟨v, rfl, hO, hB⟩; have HO := Lib.hid hO; have HB := Lib.hid hB; clear hO hB))
  go_ret
  exact ⟨v, rfl, HO.out, HB.out⟩
end Go.Proofs.YtbffgpfkgmhmhaaGreatDoor.Dw
/- manifest.Swap in plain words: over a power of any fuse. -/
set_option linter.unusedVariables false
set_option linter.unusedSimpArgs false
namespace Go.Proofs.Dk
open Go.Proofs.YtbffgpfkgmhmhaaGreatDoor.Dw
def mn : Tx := [109, 97, 110, 105, 102, 101, 115, 116]
def mnew : Tx := [109, 97, 110, 105, 102, 101, 115, 116, 46, 110, 101, 119]
/-- What may lie on the disk: the manifest, all of it synced, and a fresh one. -/
structure Inv (l : FS) : Prop where
  sorted : Sorted l
  names : ∀ p ∈ l, p.1 = mn ∨ p.1 = mnew
  len : ∀ p ∈ l, p.2.b.length ≤ 1000
  sure : ∀ p ∈ l, p.2.s ≤ p.2.b.length
  whole : ∀ p ∈ l, p.1 = mn → p.2.s = p.2.b.length
theorem Inv.nil : Inv [] := ⟨List.Pairwise.nil, by simp, by simp, by simp, by simp⟩
theorem two_names : ∀ (l : FS), Sorted l → (∀ p ∈ l, p.1 = mn ∨ p.1 = mnew) → l.length ≤ 2
  | [], _, _ => by simp
  | [_], _, _ => by simp
  | [_, _], _, _ => by simp
  | a :: b :: c :: r, h, hn => by
    simp only [Sorted, List.pairwise_cons, List.mem_cons] at h
    have h1 := before_ne (h.1 b (Or.inl rfl))
    have h2 := before_ne (h.1 c (Or.inr (Or.inl rfl)))
    have h3 := before_ne (h.2.1 c (Or.inl rfl))
    have ha := hn a (by simp)
    have hb := hn b (by simp)
    have hc := hn c (by simp)
    rcases ha with ha | ha <;> rcases hb with hb | hb <;> rcases hc with hc | hc <;> simp_all
theorem used_le : ∀ (l : FS) (b : Nat), (∀ p ∈ l, p.2.b.length ≤ b) → used l ≤ l.length * b
  | [], b, _ => by simp [used]
  | p :: r, b, h => by
    have h1 := h p (List.mem_cons_self ..)
    have h2 := used_le r b (fun q hq => h q (List.mem_cons_of_mem _ hq))
    rw [used_cons, List.length_cons, Nat.succ_mul]
    omega
theorem Inv.two {l : FS} (h : Inv l) : l.length ≤ 2 := two_names l h.sorted h.names
theorem Inv.used {l : FS} (h : Inv l) : used l ≤ 2000 := by
  have h1 := used_le l 1000 h.len
  have h2 := h.two
  omega
theorem cut_whole (keep : List Int) (j : Nat) (f : Fl) (h : f.s = f.b.length) : cut keep j f = f := by
  have h1 := more_le keep j f (Nat.le_of_eq h)
  have h2 : more keep j f = 0 := by omega
  obtain ⟨b, s⟩ := f
  simp only at h
  subst h
  simp [cut, h2]
theorem crash_get {l : FS} (hs : Sorted l) (keep : List Int) (k : Tx) : (get l k = none → get (crash keep l) k = none) ∧ ∀ f, get l k = some f → ∃ j, get (crash keep l) k = some (cut keep j f) := by
  have hs2 : Sorted (crash keep l) := sorted_of_keys hs (crashAt_keys keep 0 l)
  constructor
  · intro h
    refine get_none.2 fun p hp => ?_
    obtain ⟨q, hq, j, rfl⟩ := crash_mem hp
    exact get_none.1 h q hq
  · intro f hf
    obtain ⟨j, hj, he⟩ := List.getElem_of_mem (get_mem hf)
    refine ⟨0 + j, get_of_mem hs2 ?_⟩
    have h1 := crashAt_get keep 0 j l hj
    rw [he] at h1
    rw [← h1]
    exact List.getElem_mem _
theorem Inv.crash {l : FS} (h : Inv l) (keep : List Int) : Inv (crash keep l) ∧ get (Dk.crash keep l) mn = get l mn := by
  constructor
  · exact {
      sorted := sorted_of_keys h.sorted (crashAt_keys keep 0 l)
      names := fun p hp => by obtain ⟨r, hr, j, rfl⟩ := crash_mem hp; exact h.names r hr
      len := fun p hp => by
        obtain ⟨r, hr, j, rfl⟩ := crash_mem hp
        have h1 := cut_len keep j r.2 (h.sure r hr)
        have h2 := more_le keep j r.2 (h.sure r hr)
        have h3 := h.len r hr
        simp only [cut] at *
        omega
      sure := fun p hp => by obtain ⟨r, hr, j, rfl⟩ := crash_mem hp; exact Nat.le_of_eq (cut_len keep j r.2 (h.sure r hr)).symm
      whole := fun p hp _ => by obtain ⟨r, hr, j, rfl⟩ := crash_mem hp; exact (cut_len keep j r.2 (h.sure r hr)).symm }
  · obtain ⟨h1, h2⟩ := crash_get h.sorted keep mn
    cases hg : get l mn with
    | none => exact h1 hg
    | some f =>
      obtain ⟨j, hj⟩ := h2 f hg
      rw [hj, cut_whole keep j f (h.whole _ (get_mem hg) rfl)]
/-- One step: the files ahead of it and behind it. -/
structure Step1 (o : Option Fl) (nw : Option Fl) (l : FS) : Prop where
  inv : Inv l
  old : get l mn = o
  fresh : get l mnew = nw
/-! ### steps over a power -/
def clearS (fuse : Int) (keep : List Int) (s : PS) : PS × Nat := if s.dn = false ∧ (get s.l mnew).isSome = true then pw fuse keep (fun l => remove l mnew) s else (s, 0)
/-- Steps, one behind the other, up to the first error. -/
def seqS : List (PS → PS × Nat) → PS → PS × Nat
  | [], s => (s, 0)
  | f :: r, s => if (f s).2 = 0 then seqS r (f s).1 else f s
def swapSteps (q : Nat) (fuse : Int) (keep : List Int) (t : Tx) : List (PS → PS × Nat) :=
  [clearS fuse keep, pw fuse keep (fun l => create l mnew), pw fuse keep (fun l => append q l mnew t), pw fuse keep (fun l => sync l mnew), pw fuse keep (fun l => rename l mnew mn)]
def swapS (q : Nat) (fuse : Int) (keep : List Int) (t : Tx) (s : PS) : PS × Nat := seqS (swapSteps q fuse keep t) s
/-- How it ended: all done; or off, the manifest as it was, or the new one. -/
structure Ends (o : Option Fl) (t : Tx) (r : PS × Nat) : Prop where
  inv : Inv r.1.l
  how : (r.2 = 0 ∧ get r.1.l mn = some ⟨t, t.length⟩) ∨ (r.2 = 8 ∧ (get r.1.l mn = o ∨ get r.1.l mn = some ⟨t, t.length⟩))
theorem Ends.off {o o1 o2 : Option Fl} {nw nw2 : Option Fl} {t : Tx} {l l1 l2 : FS} {n : Nat} (keep : List Int) (h1 : Step1 o1 nw l1) (h2 : Step1 o2 nw2 l2) (e1 : o1 = o) (e2 : o2 = o ∨ o2 = some ⟨t, t.length⟩) (hl : l = l1 ∨ l = l2) : Ends o t (⟨crash keep l, n, true⟩, 8) := by
  rcases hl with rfl | rfl
  · obtain ⟨a, b⟩ := h1.inv.crash keep
    exact ⟨a, Or.inr ⟨rfl, Or.inl (b.trans (h1.old.trans e1))⟩⟩
  · obtain ⟨a, b⟩ := h2.inv.crash keep
    refine ⟨a, Or.inr ⟨rfl, ?_⟩⟩
    rcases e2 with e2 | e2
    · exact Or.inl (b.trans (h2.old.trans e2))
    · exact Or.inr (b.trans (h2.old.trans e2))
/-- A step's writes. -/
theorem pw_wr (fuse : Int) (keep : List Int) (f : FS → FS × Nat) (s : PS) : (pw fuse keep f s).1.wr ≤ s.wr + 1 := by
  unfold pw
  split
  · simp
  · split <;> simp
theorem clear_wr (fuse : Int) (keep : List Int) (s : PS) : (clearS fuse keep s).1.wr ≤ s.wr + 1 := by
  unfold clearS
  split
  · exact pw_wr _ _ _ _
  · simp
end Go.Proofs.Dk
/- Rename, Remove over a power. -/
set_option linter.unusedVariables false
set_option linter.unusedSimpArgs false
namespace Go.Proofs.YtbffgpfkgmhmhaaGreatDoor.Dw
open Go.RowKit Go.Maps Go.Proofs.YtbffgpfkgmhmhaaGreatDoorW.PrintWords Go.Proofs.YtbffgpfkgmhmhaaGreatDoorW.PrintLast Go.Proofs.YtbffgpfkgmhmhaaGreatDoorW.PrintMore Go.Proofs.Dk
set_option maxRecDepth 100000
theorem remove1_calls (w : World) {k : PW} {L : Lf} {c : PC} (h : IsP w k L c) (x0 x1 : Addr) (n : Tx) (hx : w.cell? x0 = some (.pointer (some ⟨k.pb, 0, none⟩))) (hx1 : w.cell? x1 = some (.string (bs n))) :
    Calls Tryz.prog 126 #[.pointer (some x0), .pointer (some x1)] w (DidT w k.base k.d k.mb k.q L (remove (fs L) n)) := by
  have H := Lib.hid h
  clear h
  go_enter Tryz.func126, Tryz.ntmps126
  go_wp2_with fail
  refine start_ (n := 7) (S := (fun w' => w'.cell? x0 = some (.pointer (some ⟨k.pb, 0, none⟩)) ∧ w'.cell? x1 = some (.string (bs n)) ∧ IsP w' k L c)) (ds := [5]) #[false, false, false, false, false, false, false] (by kernel_rfl) rfl rfl ⟨hx, hx1, H.out.drew⟩ (fun hHeld => ?_)
  refine take_ (i := 0) (N := some 3) (v := ?_) (a' := ?_) #[true, false, false, false, false, false, false] rfl rfl (by kernel_rfl) (fun _ _ _ h => h) (Or.inl ⟨by rfl, ?_⟩) hHeld ?_ ?_
  rotate_left
  · rintro w' ⟨hx0, hy1, hP1⟩
    have g0 := hP1.c 0 (v := .pointer (some ⟨k.d, 0, none⟩)) rfl
    go_simp
    with_reducible rfl
  rotate_left
  · simp only [Act.put, List.setIfInBounds_toArray, List.set_cons_zero, List.set_cons_succ, i64_w, i32_w]
    rfl
  refine pure_ (i := 1) (N := some 4) (v := ?_) (a' := ?_) #[true, true, false, false, false, false, false] rfl rfl (by kernel_rfl) (fun _ _ _ h => h) (Or.inl ⟨by rfl, ?_⟩) ?_ ?_
  rotate_left
  · intro w'
    go_simp
    with_reducible rfl
  rotate_left
  · simp only [Act.put, List.setIfInBounds_toArray, List.set_cons_zero, List.set_cons_succ, i64_w, i32_w]
    rfl
  refine pure_ (i := 2) (N := some 5) (v := ?_) (a' := ?_) #[true, true, true, false, false, false, false] rfl rfl (by kernel_rfl) (fun _ _ _ h => h) (Or.inl ⟨by rfl, ?_⟩) ?_ ?_
  rotate_left
  · intro w'
    go_simp
    with_reducible rfl
  rotate_left
  · simp only [Act.put, List.setIfInBounds_toArray, List.set_cons_zero, List.set_cons_succ, i64_w, i32_w]
    rfl
  refine take_ (i := 3) (N := some 6) (v := ?_) (a' := ?_) #[true, true, true, true, false, false, false] rfl rfl (by kernel_rfl) (fun _ _ _ h => h) (Or.inl ⟨by rfl, ?_⟩) hHeld ?_ ?_
  rotate_left
  · rintro w' ⟨hx0, hy1, hP1⟩
    have g0 := hP1.c 0 (v := .pointer (some ⟨k.d, 0, none⟩)) rfl
    go_simp
    with_reducible rfl
  rotate_left
  · simp only [Act.put, List.setIfInBounds_toArray, List.set_cons_zero, List.set_cons_succ, i64_w, i32_w]
    rfl
  refine take_ (i := 4) (N := some 7) (v := ?_) (a' := ?_) #[true, true, true, true, true, false, false] rfl rfl (by kernel_rfl) (fun _ _ _ h => h) (Or.inl ⟨by rfl, ?_⟩) hHeld ?_ ?_
  rotate_left
  · rintro w' ⟨hx0, hy1, hP1⟩
    have g0 := hP1.c 0 (v := .pointer (some ⟨k.d, 0, none⟩)) rfl
    go_simp
    with_reducible rfl
  rotate_left
  · simp only [Act.put, List.setIfInBounds_toArray, List.set_cons_zero, List.set_cons_succ, i64_w, i32_w]
    rfl
  refine last_ (i := 5) (N := some 8) #[true, true, true, true, true, true, false] rfl rfl (by kernel_rfl) (by decide) (fun K hK => ?_)
  refine goes_ Tryz.func127 (by kernel_rfl) rfl #[.pointer (some ⟨k.d, 0, none⟩), .string (bs n)] (by rfl) rfl rfl (by simp only [List.map_toArray, List.map_cons, List.map_nil]; rfl) ?_
  refine (remove_full _ H.out.drew.disk n).mono ?_
  rintro e w5 ⟨rfl, hB5, L', hL', hD5, hT5⟩
  refine ⟨_, rfl, ?_⟩
  refine hK.out _ _ ?_
  clear hK K
  refine norm_ (a' := ?_) ?_ ?_
  rotate_left
  · show Act.put _ (some 8) _ = _
    simp only [Act.put, List.setIfInBounds_toArray, List.set_cons_zero, List.set_cons_succ, i64_w, i32_w]
    rfl
  refine pure_ (i := 6) (N := some 2) (v := ?_) (a' := ?_) #[true, true, true, true, true, true, true] rfl rfl (by kernel_rfl) (fun _ _ _ h => h) (Or.inl ⟨by rfl, ?_⟩) ?_ ?_
  rotate_left
  · intro w'
    go_simp
    with_reducible rfl
  rotate_left
  · simp only [Act.put, List.setIfInBounds_toArray, List.set_cons_zero, List.set_cons_succ, i64_w, i32_w]
    rfl
  refine done_ (by kernel_rfl) ?_
  go_wp2_with fail
  go_ret
  exact ⟨rfl, ((Below.refl _ w).drew).trans hB5, L', hL', hD5, ((Turn.of_below (Below.refl _ w).drew k.mb L).trans hT5)⟩
theorem rename1_calls (w : World) {k : PW} {L : Lf} {c : PC} (h : IsP w k L c) (x0 x1 x2 : Addr) (n b : Tx) (hx : w.cell? x0 = some (.pointer (some ⟨k.pb, 0, none⟩))) (hx1 : w.cell? x1 = some (.string (bs n))) (hx2 : w.cell? x2 = some (.string (bs b))) :
    Calls Tryz.prog 128 #[.pointer (some x0), .pointer (some x1), .pointer (some x2)] w (DidT w k.base k.d k.mb k.q L (rename (fs L) n b)) := by
  have H := Lib.hid h
  clear h
  go_enter Tryz.func128, Tryz.ntmps128
  go_wp2_with fail
  refine start_ (n := 8) (S := (fun w' => w'.cell? x0 = some (.pointer (some ⟨k.pb, 0, none⟩)) ∧ w'.cell? x1 = some (.string (bs n)) ∧ w'.cell? x2 = some (.string (bs b)) ∧ IsP w' k L c)) (ds := [6]) #[false, false, false, false, false, false, false, false] (by kernel_rfl) rfl rfl ⟨hx, hx1, hx2, H.out.drew⟩ (fun hHeld => ?_)
  refine take_ (i := 0) (N := some 4) (v := ?_) (a' := ?_) #[true, false, false, false, false, false, false, false] rfl rfl (by kernel_rfl) (fun _ _ _ h => h) (Or.inl ⟨by rfl, ?_⟩) hHeld ?_ ?_
  rotate_left
  · rintro w' ⟨hx0, hy1, hy2, hP1⟩
    have g0 := hP1.c 0 (v := .pointer (some ⟨k.d, 0, none⟩)) rfl
    go_simp
    with_reducible rfl
  rotate_left
  · simp only [Act.put, List.setIfInBounds_toArray, List.set_cons_zero, List.set_cons_succ, i64_w, i32_w]
    rfl
  refine pure_ (i := 1) (N := some 5) (v := ?_) (a' := ?_) #[true, true, false, false, false, false, false, false] rfl rfl (by kernel_rfl) (fun _ _ _ h => h) (Or.inl ⟨by rfl, ?_⟩) ?_ ?_
  rotate_left
  · intro w'
    go_simp
    with_reducible rfl
  rotate_left
  · simp only [Act.put, List.setIfInBounds_toArray, List.set_cons_zero, List.set_cons_succ, i64_w, i32_w]
    rfl
  refine pure_ (i := 2) (N := some 6) (v := ?_) (a' := ?_) #[true, true, true, false, false, false, false, false] rfl rfl (by kernel_rfl) (fun _ _ _ h => h) (Or.inl ⟨by rfl, ?_⟩) ?_ ?_
  rotate_left
  · intro w'
    go_simp
    with_reducible rfl
  rotate_left
  · simp only [Act.put, List.setIfInBounds_toArray, List.set_cons_zero, List.set_cons_succ, i64_w, i32_w]
    rfl
  refine take_ (i := 3) (N := some 7) (v := ?_) (a' := ?_) #[true, true, true, true, false, false, false, false] rfl rfl (by kernel_rfl) (fun _ _ _ h => h) (Or.inl ⟨by rfl, ?_⟩) hHeld ?_ ?_
  rotate_left
  · rintro w' ⟨hx0, hy1, hy2, hP1⟩
    have g0 := hP1.c 0 (v := .pointer (some ⟨k.d, 0, none⟩)) rfl
    go_simp
    with_reducible rfl
  rotate_left
  · simp only [Act.put, List.setIfInBounds_toArray, List.set_cons_zero, List.set_cons_succ, i64_w, i32_w]
    rfl
  refine take_ (i := 4) (N := some 8) (v := ?_) (a' := ?_) #[true, true, true, true, true, false, false, false] rfl rfl (by kernel_rfl) (fun _ _ _ h => h) (Or.inl ⟨by rfl, ?_⟩) hHeld ?_ ?_
  rotate_left
  · rintro w' ⟨hx0, hy1, hy2, hP1⟩
    have g0 := hP1.c 0 (v := .pointer (some ⟨k.d, 0, none⟩)) rfl
    go_simp
    with_reducible rfl
  rotate_left
  · simp only [Act.put, List.setIfInBounds_toArray, List.set_cons_zero, List.set_cons_succ, i64_w, i32_w]
    rfl
  refine take_ (i := 5) (N := some 9) (v := ?_) (a' := ?_) #[true, true, true, true, true, true, false, false] rfl rfl (by kernel_rfl) (fun _ _ _ h => h) (Or.inl ⟨by rfl, ?_⟩) hHeld ?_ ?_
  rotate_left
  · rintro w' ⟨hx0, hy1, hy2, hP1⟩
    have g0 := hP1.c 0 (v := .pointer (some ⟨k.d, 0, none⟩)) rfl
    go_simp
    with_reducible rfl
  rotate_left
  · simp only [Act.put, List.setIfInBounds_toArray, List.set_cons_zero, List.set_cons_succ, i64_w, i32_w]
    rfl
  refine last_ (i := 6) (N := some 10) #[true, true, true, true, true, true, true, false] rfl rfl (by kernel_rfl) (by decide) (fun K hK => ?_)
  refine goes_ Tryz.func129 (by kernel_rfl) rfl #[.pointer (some ⟨k.d, 0, none⟩), .string (bs n), .string (bs b)] (by rfl) rfl rfl (by simp only [List.map_toArray, List.map_cons, List.map_nil]; rfl) ?_
  refine (rename_full _ H.out.drew.disk n b).mono ?_
  rintro e w5 ⟨rfl, hB5, L', hL', hD5, hT5⟩
  refine ⟨_, rfl, ?_⟩
  refine hK.out _ _ ?_
  clear hK K
  refine norm_ (a' := ?_) ?_ ?_
  rotate_left
  · show Act.put _ (some 10) _ = _
    simp only [Act.put, List.setIfInBounds_toArray, List.set_cons_zero, List.set_cons_succ, i64_w, i32_w]
    rfl
  refine pure_ (i := 7) (N := some 3) (v := ?_) (a' := ?_) #[true, true, true, true, true, true, true, true] rfl rfl (by kernel_rfl) (fun _ _ _ h => h) (Or.inl ⟨by rfl, ?_⟩) ?_ ?_
  rotate_left
  · intro w'
    go_simp
    with_reducible rfl
  rotate_left
  · simp only [Act.put, List.setIfInBounds_toArray, List.set_cons_zero, List.set_cons_succ, i64_w, i32_w]
    rfl
  refine done_ (by kernel_rfl) ?_
  go_wp2_with fail
  go_ret
  exact ⟨rfl, ((Below.refl _ w).drew).trans hB5, L', hL', hD5, ((Turn.of_below (Below.refl _ w).drew k.mb L).trans hT5)⟩
set_option maxHeartbeats 1000000 in
theorem premove_calls (w : World) {k : PW} {L : Lf} {s : PS} (h : IsP w k L (pcOf s)) (hl : fs L = s.l) (hwr : s.wr < 1000000000) (hfu : -9223372036854775808 ≤ k.fuse ∧ k.fuse ≤ 9223372036854775807) (n : Tx) :
    Calls Tryz.prog 93 #[.pointer (some ⟨k.pb, 0, none⟩), .string (bs n)] w (DidP w k L (pw k.fuse k.keep (fun l => remove l n) s)) := by
  obtain ⟨W, hW⟩ : ∃ W, (w.alloc (.cells #[.pointer (some ⟨k.pb, 0, none⟩)] 40)).alloc (.cells #[.string (bs n)] 9) = W := ⟨_, rfl⟩
  have hB1 : Below w.heap.size w W := by rw [← hW]; exact ((Below.refl _ w).alloc (Nat.le_refl _) _).alloc (by simp) _
  have hbx : Box2 (.pointer (some ⟨k.pb, 0, none⟩)) (.string (bs n)) w.heap.size W := by
    rw [← hW]
    exact box2_new w _ 40 _
  have hpl := heap_lt h.top
  have HWr := Lib.hid (write_calls W (h.below hB1) hl hwr hfu 126 #[.pointer (some ⟨w.heap.size, 0, none⟩), .pointer (some ⟨w.heap.size + 1, 0, none⟩)] (enters 126 _ Tryz.func126 (by kernel_rfl) rfl) (fun l => remove l n) (Box2 (.pointer (some ⟨k.pb, 0, none⟩)) (.string (bs n)) w.heap.size) hbx
    (fun _ h => h) (fun W hh v => ⟨box_set hh.1 (by omega), box_set hh.2 (by omega)⟩) (fun W L1 c1 hP hh => remove1_calls W hP _ _ n hh.1 hh.2))
  have HB1 := Lib.hid hB1
  have hsz := h.size
  have hx0 := hbx.1
  clear h hB1 hbx
  go_enter Tryz.func93, Tryz.ntmps93
  go_wp2_with fail
  refine HWr.out.mono ?_
  rintro e w5 ⟨rfl, hB5, L', hL', hP5, hT5⟩
  have HP5 := Lib.hid hP5
  have HB5 := Lib.hid ((HB1.out.mono hsz).trans hB5)
  have HT5 := Lib.hid ((TurnP.of_below HB1.out k L).trans hT5)
  clear hB5 hP5 hT5
  go_wp2_with fail
  go_ret
  exact ⟨rfl, HB5.out, L', hL', HP5.out, HT5.out⟩
set_option maxHeartbeats 1000000 in
theorem prename_calls (w : World) {k : PW} {L : Lf} {s : PS} (h : IsP w k L (pcOf s)) (hl : fs L = s.l) (hwr : s.wr < 1000000000) (hfu : -9223372036854775808 ≤ k.fuse ∧ k.fuse ≤ 9223372036854775807) (n b : Tx) :
    Calls Tryz.prog 94 #[.pointer (some ⟨k.pb, 0, none⟩), .string (bs n), .string (bs b)] w (DidP w k L (pw k.fuse k.keep (fun l => rename l n b) s)) := by
  obtain ⟨W, hW⟩ : ∃ W, ((w.alloc (.cells #[.pointer (some ⟨k.pb, 0, none⟩)] 40)).alloc (.cells #[.string (bs n)] 9)).alloc (.cells #[.string (bs b)] 9) = W := ⟨_, rfl⟩
  have hB1 : Below w.heap.size w W := by rw [← hW]; exact (((Below.refl _ w).alloc (Nat.le_refl _) _).alloc (by simp) _).alloc (by simp; omega) _
  have hbx : Box3 (.pointer (some ⟨k.pb, 0, none⟩)) (.string (bs n)) (.string (bs b)) w.heap.size W := by
    rw [← hW]
    exact box3_new w _ 40 _ _
  have hpl := heap_lt h.top
  have HWr := Lib.hid (write_calls W (h.below hB1) hl hwr hfu 128 #[.pointer (some ⟨w.heap.size, 0, none⟩), .pointer (some ⟨w.heap.size + 1, 0, none⟩), .pointer (some ⟨w.heap.size + 2, 0, none⟩)] (enters 128 _ Tryz.func128 (by kernel_rfl) rfl) (fun l => rename l n b) (Box3 (.pointer (some ⟨k.pb, 0, none⟩)) (.string (bs n)) (.string (bs b)) w.heap.size) hbx
    (fun _ h => h) (fun W hh v => ⟨box_set hh.1 (by omega), box_set hh.2.1 (by omega), box_set hh.2.2 (by omega)⟩) (fun W L1 c1 hP hh => rename1_calls W hP _ _ _ n b hh.1 hh.2.1 hh.2.2))
  have HB1 := Lib.hid hB1
  have hsz := h.size
  have hx0 := hbx.1
  clear h hB1 hbx
  go_enter Tryz.func94, Tryz.ntmps94
  go_wp2_with fail
  refine HWr.out.mono ?_
  rintro e w5 ⟨rfl, hB5, L', hL', hP5, hT5⟩
  have HP5 := Lib.hid hP5
  have HB5 := Lib.hid ((HB1.out.mono hsz).trans hB5)
  have HT5 := Lib.hid ((TurnP.of_below HB1.out k L).trans hT5)
  clear hB5 hP5 hT5
  go_wp2_with fail
  go_ret
  exact ⟨rfl, HB5.out, L', hL', HP5.out, HT5.out⟩
end Go.Proofs.YtbffgpfkgmhmhaaGreatDoor.Dw
/- manifest.Swap: names.New, slices.Index, slices.Contains, the five steps (functions 46, 125, 91, 47 to 51). Printed by sxgen.py. -/
set_option linter.unusedVariables false
set_option linter.unusedSimpArgs false
namespace Go.Proofs.YtbffgpfkgmhmhaaGreatDoor.Dw
open Go.RowKit Go.Maps Go.Proofs.YtbffgpfkgmhmhaaGreatDoorW.PrintWords Go.Proofs.YtbffgpfkgmhmhaaGreatDoorW.PrintLast Go.Proofs.YtbffgpfkgmhmhaaGreatDoorW.PrintMore Go.Proofs.Dk
set_option maxRecDepth 100000
theorem cat_bs (a b : Tx) : bs a ++ bs b = bs (a ++ b) := by
  apply ByteArray.ext
  apply Array.ext'
  simp [bs]
theorem newname_calls (w : World) (n : Tx) (hn : n.length ≤ 1000000) : Calls Tryz.prog 46 #[.string (bs n)] w fun e w' => e = .returned (.string (bs (n ++ [46, 110, 101, 119]))) ∧ w' = w := by
  have hc : bs n ++ (⟨#[46, 110, 101, 119]⟩ : ByteArray) = bs (n ++ [46, 110, 101, 119]) := cat_bs n [46, 110, 101, 119]
  have hs : ¬ 9223372036854775807 < (bs n).size + (⟨#[46, 110, 101, 119]⟩ : ByteArray).size := by
    rw [bs_size]
    show ¬ 9223372036854775807 < n.length + 4
    omega
  go_enter Tryz.func46, Tryz.ntmps46
  go_wp2
  go_ret
  exact ⟨rfl, rfl⟩
/-! ### a list of names -/
def NamesAt (w : World) (A : Option Addr) (l : List Tx) : Prop := ∀ j (hj : j < l.length), ∃ ad, A = some ad ∧ w.cell? (ad.add j) = some (.string (bs l[j]))
theorem eq_bs (a b : Tx) : ((bs a).toList == (bs b).toList) = (a == b) := by rw [bs_toList, bs_toList]
theorem index_calls (w : World) (A : Option Addr) (cap : Nat) (l : List Tx) (hl : l.length ≤ 1000) (h : NamesAt w A l) (t : Tx) :
    Calls Tryz.prog 125 #[.slice A l.length cap, .string (bs t)] w fun e w' => ∃ z : Int, e = .returned (.int .i64 z) ∧ decide (0 ≤ z) = decide (t ∈ l) ∧ Below w.heap.size w w' := by
  have HN := Lib.hid h
  have HB0 := Lib.hid (Below.refl w.heap.size w)
  clear h
  go_enter Tryz.func125, Tryz.ntmps125
  go_wp2_with fail
  go_loopw [8] (fun t8 wr => ∃ i : Nat, i ≤ l.length ∧ t8 = .int .i64 i ∧ (∀ j (hj : j < l.length), j < i → l[j] ≠ t) ∧ wr = w) (fun t8 _ => l.length - (intOf t8).toNat)
  case atStart => exact ⟨0, Nat.zero_le _, rfl, fun j _ hj => absurd hj (Nat.not_lt_zero _), rfl⟩
  case round =>
    obtain ⟨i, hi, rfl, hno, rfl⟩ := hrel
    have HNo := Lib.hid hno
    clear hno
    by_cases hlt : i < l.length
    · have hltb : decide ((i : Int) < (l.length : Int)) = true := decide_eq_true (by omega)
      have hk0 : 0 ≤ (i : Int) := by omega
      obtain ⟨⟨ab, af, ap⟩, rfl, c0⟩ := HN.out i hlt
      by_cases he : t = l[i]
      · have hq : ((bs t).toList == (bs l[i]).toList) = true := by rw [eq_bs]; simp [he]
        have HE := Lib.hid he
        generalize hx : bs l[i] = xb at *
        have HX := Lib.hid hx
        clear hx he
        go_wp2_with fail
        go_ret
        exact ⟨_, rfl, by rw [decide_eq_true (show 0 ≤ (i : Int) by omega), decide_eq_true (show t ∈ l by rw [HE.out]; exact List.getElem_mem hlt)], HB0.out⟩
      · have hq : ((bs t).toList == (bs l[i]).toList) = false := by rw [eq_bs]; simp [he]
        have HE := Lib.hid he
        generalize hx : bs l[i] = xb at *
        clear hx he
        go_wp2_with fail
        go_roundw
        case rel => exact ⟨i + 1, by omega, by go_num, fun j hj hji => by
          by_cases hjj : j = i
          · subst hjj; exact fun e => HE.out e.symm
          · exact HNo.out j hj (by omega), by first | rfl | trivial⟩
        case measure => simp [intOf]; omega
    · have hltb : decide ((i : Int) < (l.length : Int)) = false := decide_eq_false (by omega)
      go_wp2_with fail
      go_ret
      refine ⟨_, rfl, ?_, HB0.out⟩
      rw [decide_eq_false (show ¬ 0 ≤ (-1 : Int) by decide), decide_eq_false]
      intro hm
      obtain ⟨j, hj, e⟩ := List.getElem_of_mem hm
      exact HNo.out j hj (by omega) e
theorem contains_calls (w : World) (A : Option Addr) (cap : Nat) (l : List Tx) (hl : l.length ≤ 1000) (h : NamesAt w A l) (t : Tx) :
    Calls Tryz.prog 91 #[.slice A l.length cap, .string (bs t)] w fun e w' => e = .returned (.bool (decide (t ∈ l))) ∧ Below w.heap.size w w' := by
  have HI := Lib.hid (index_calls w A cap l hl h t)
  clear h
  go_enter Tryz.func91, Tryz.ntmps91
  go_wp2_with fail
  refine HI.out.mono ?_
  rintro e w2 ⟨z, rfl, hz, hB⟩
  have HB := Lib.hid hB
  clear hB
  go_wp2_with fail
  go_ret
  exact ⟨rfl, HB.out⟩
/-- What List tells: the names, or nothing where the power is off. -/
def listS (s : PS) : List Tx := if s.dn then [] else s.l.map (·.1)
theorem mem_listS (s : PS) (t : Tx) : decide (t ∈ listS s) = decide (s.dn = false ∧ (get s.l t).isSome = true) := by
  have h1 : (get s.l t).isSome = true ↔ t ∈ s.l.map (·.1) := by
    cases hg : get s.l t with
    | none =>
      simp only [Option.isSome_none, Bool.false_eq_true, false_iff]
      intro hm
      obtain ⟨p, hp, rfl⟩ := List.mem_map.1 hm
      exact get_none.1 hg p hp rfl
    | some v =>
      simp only [Option.isSome_some, true_iff]
      exact List.mem_map.2 ⟨_, get_mem hg, rfl⟩
  rw [Bool.eq_iff_iff, decide_eq_true_iff, decide_eq_true_iff]
  unfold listS
  cases hd : s.dn with
  | true => simp
  | false => exact ⟨fun h => ⟨rfl, h1.2 h⟩, fun h => h1.1 h.2⟩
theorem row_at {W w1 : World} {n : Nat} {v : Value} {l : List Tx} (h : w1.ownsRow W.heap.size 9 1 v n (l.map encS)) (hl : l.length = n) : ∃ A cap, v = .slice A l.length cap ∧ NamesAt w1 A l := by
  obtain ⟨A, cap, rfl, hr⟩ := row_names (l := l) h
  refine ⟨A, cap, by rw [hl], fun j hj => ?_⟩
  obtain ⟨g, cs, rfl, _, hg, hc⟩ := hr (by omega)
  refine ⟨_, rfl, ?_⟩
  have := cells_of hg (hc j hj)
  by_cases h0 : j = 0
  · subst h0; simpa [Addr.add] using this
  · simpa [Addr.add, h0] using this
theorem plist_s (w : World) {k : PW} {L : Lf} {s : PS} (h : IsP w k L (pcOf s)) (hl : fs L = s.l) : Calls Tryz.prog 92 #[.pointer (some ⟨k.pb, 0, none⟩)] w fun e w' =>
    ∃ A cap, e = .returned (.slice A (listS s).length cap) ∧ NamesAt w' A (listS s) ∧ Below w.heap.size w w' := by
  cases hd : s.dn with
  | true =>
    refine (plist_off w h hd).mono ?_
    rintro e w' ⟨rfl, rfl⟩
    have e0 : listS s = [] := by simp [listS, hd]
    rw [e0]
    exact ⟨none, 0, rfl, fun j hj => by simp at hj, Below.refl _ _⟩
  | false =>
    refine (plist_calls w h hd).mono ?_
    rintro e w' ⟨v, rfl, hrow, hB⟩
    have e0 : listS s = (fs L).map (·.1) := by simp [listS, hd, hl]
    obtain ⟨A, cap, rfl, hA⟩ := row_at (l := (fs L).map (·.1)) (by rw [List.map_map]; exact hrow) (by simp)
    rw [e0]
    exact ⟨A, cap, rfl, hA, hB⟩
theorem NamesAt.below {w w' : World} {A : Option Addr} {l : List Tx} (h : NamesAt w A l) (hB : Below w.heap.size w w') : NamesAt w' A l := fun j hj => by
  obtain ⟨ad, hA, hc⟩ := h j hj
  exact ⟨ad, hA, cell_below hc hB⟩
theorem listS_len {s : PS} {L : Lf} (hl : fs L = s.l) {w : World} {k : PW} {c : PC} (h : IsP w k L c) : (listS s).length ≤ 1000 := by
  have h2 : (fs L).length ≤ 64 := h.disk.ok.few
  rw [hl] at h2
  unfold listS
  split
  · simp
  · rw [List.length_map]; omega
/-! ### the steps -/
def svOf (p : Option Addr) (t : Tx) : Value := .agg #[.pointer p, .string (bs mnew), .string (bs t)]
def svObj (p : Option Addr) (t : Tx) : Obj := .cells #[.pointer p, .string (bs mnew), .string (bs t)] 98
theorem svc (w : World) (p : Option Addr) (t : Tx) : (w.alloc (svObj p t)).cell? ⟨w.heap.size, 0, none⟩ = some (.pointer p) ∧ (w.alloc (svObj p t)).cell? ⟨w.heap.size, 1, none⟩ = some (.string (bs mnew)) ∧ (w.alloc (svObj p t)).cell? ⟨w.heap.size, 2, none⟩ = some (.string (bs t)) := by
  have h := heap_alloc_new w (svObj p t)
  unfold svObj at h
  unfold World.cell? svObj
  rw [h]
  exact ⟨rfl, rfl, rfl⟩
set_option maxHeartbeats 1000000 in
theorem screate_calls (w : World) {k : PW} {L : Lf} {s : PS} (h : IsP w k L (pcOf s)) (hl : fs L = s.l) (hwr : s.wr < 1000000000) (hfu : -9223372036854775808 ≤ k.fuse ∧ k.fuse ≤ 9223372036854775807) (t : Tx) :
    Calls Tryz.prog 48 #[svOf (some ⟨k.pb, 0, none⟩) t] w (DidP w k L (pw k.fuse k.keep (fun l => create l mnew) s)) := by
  have HB1 := Lib.hid ((Below.refl w.heap.size w).alloc (Nat.le_refl _) (svObj (some ⟨k.pb, 0, none⟩) t))
  obtain ⟨c0, c1, c2⟩ := svc w (some ⟨k.pb, 0, none⟩) t
  have HC := Lib.hid (pcreate_calls (w.alloc (svObj (some ⟨k.pb, 0, none⟩) t)) (h.below HB1.out) hl hwr hfu mnew)
  have HT := Lib.hid (TurnP.of_below HB1.out k L)
  have hsz := Lib.hid h.size
  clear h
  unfold svOf
  unfold svObj at *
  go_enter Tryz.func48, Tryz.ntmps48
  go_wp2_with fail
  refine HC.out.mono ?_
  rintro e w5 ⟨rfl, hB5, L', hL', hP5, hT5⟩
  have HP5 := Lib.hid hP5
  have HB5 := Lib.hid ((HB1.out.mono hsz.out).trans hB5)
  have HT5 := Lib.hid (HT.out.trans hT5)
  clear hB5 hP5 hT5
  go_wp2_with fail
  go_ret
  exact ⟨rfl, HB5.out, L', hL', HP5.out, HT5.out⟩
set_option maxHeartbeats 1000000 in
theorem sfill_calls (w : World) {k : PW} {L : Lf} {s : PS} (h : IsP w k L (pcOf s)) (hl : fs L = s.l) (hwr : s.wr < 1000000000) (hfu : -9223372036854775808 ≤ k.fuse ∧ k.fuse ≤ 9223372036854775807) (t : Tx) (hb : t.length ≤ 100000) :
    Calls Tryz.prog 49 #[svOf (some ⟨k.pb, 0, none⟩) t] w (DidP w k L (pw k.fuse k.keep (fun l => append k.q l mnew t) s)) := by
  have HB1 := Lib.hid ((Below.refl w.heap.size w).alloc (Nat.le_refl _) (svObj (some ⟨k.pb, 0, none⟩) t))
  obtain ⟨c0, c1, c2⟩ := svc w (some ⟨k.pb, 0, none⟩) t
  have HC := Lib.hid (pappend_calls (w.alloc (svObj (some ⟨k.pb, 0, none⟩) t)) (h.below HB1.out) hl hwr hfu mnew t hb)
  have HT := Lib.hid (TurnP.of_below HB1.out k L)
  have hsz := Lib.hid h.size
  clear h
  unfold svOf
  unfold svObj at *
  go_enter Tryz.func49, Tryz.ntmps49
  go_wp2_with fail
  refine HC.out.mono ?_
  rintro e w5 ⟨rfl, hB5, L', hL', hP5, hT5⟩
  have HP5 := Lib.hid hP5
  have HB5 := Lib.hid ((HB1.out.mono hsz.out).trans hB5)
  have HT5 := Lib.hid (HT.out.trans hT5)
  clear hB5 hP5 hT5
  go_wp2_with fail
  go_ret
  exact ⟨rfl, HB5.out, L', hL', HP5.out, HT5.out⟩
set_option maxHeartbeats 1000000 in
theorem ssync_calls (w : World) {k : PW} {L : Lf} {s : PS} (h : IsP w k L (pcOf s)) (hl : fs L = s.l) (hwr : s.wr < 1000000000) (hfu : -9223372036854775808 ≤ k.fuse ∧ k.fuse ≤ 9223372036854775807) (t : Tx) :
    Calls Tryz.prog 50 #[svOf (some ⟨k.pb, 0, none⟩) t] w (DidP w k L (pw k.fuse k.keep (fun l => sync l mnew) s)) := by
  have HB1 := Lib.hid ((Below.refl w.heap.size w).alloc (Nat.le_refl _) (svObj (some ⟨k.pb, 0, none⟩) t))
  obtain ⟨c0, c1, c2⟩ := svc w (some ⟨k.pb, 0, none⟩) t
  have HC := Lib.hid (psync_calls (w.alloc (svObj (some ⟨k.pb, 0, none⟩) t)) (h.below HB1.out) hl hwr hfu mnew)
  have HT := Lib.hid (TurnP.of_below HB1.out k L)
  have hsz := Lib.hid h.size
  clear h
  unfold svOf
  unfold svObj at *
  go_enter Tryz.func50, Tryz.ntmps50
  go_wp2_with fail
  refine HC.out.mono ?_
  rintro e w5 ⟨rfl, hB5, L', hL', hP5, hT5⟩
  have HP5 := Lib.hid hP5
  have HB5 := Lib.hid ((HB1.out.mono hsz.out).trans hB5)
  have HT5 := Lib.hid (HT.out.trans hT5)
  clear hB5 hP5 hT5
  go_wp2_with fail
  go_ret
  exact ⟨rfl, HB5.out, L', hL', HP5.out, HT5.out⟩
set_option maxHeartbeats 1000000 in
theorem srename_calls (w : World) {k : PW} {L : Lf} {s : PS} (h : IsP w k L (pcOf s)) (hl : fs L = s.l) (hwr : s.wr < 1000000000) (hfu : -9223372036854775808 ≤ k.fuse ∧ k.fuse ≤ 9223372036854775807) (t : Tx) :
    Calls Tryz.prog 51 #[svOf (some ⟨k.pb, 0, none⟩) t] w (DidP w k L (pw k.fuse k.keep (fun l => rename l mnew mn) s)) := by
  have HB1 := Lib.hid ((Below.refl w.heap.size w).alloc (Nat.le_refl _) (svObj (some ⟨k.pb, 0, none⟩) t))
  obtain ⟨c0, c1, c2⟩ := svc w (some ⟨k.pb, 0, none⟩) t
  have HC := Lib.hid (prename_calls (w.alloc (svObj (some ⟨k.pb, 0, none⟩) t)) (h.below HB1.out) hl hwr hfu mnew mn)
  have HT := Lib.hid (TurnP.of_below HB1.out k L)
  have hsz := Lib.hid h.size
  clear h
  unfold svOf
  unfold svObj at *
  go_enter Tryz.func51, Tryz.ntmps51
  go_wp2_with fail
  refine HC.out.mono ?_
  rintro e w5 ⟨rfl, hB5, L', hL', hP5, hT5⟩
  have HP5 := Lib.hid hP5
  have HB5 := Lib.hid ((HB1.out.mono hsz.out).trans hB5)
  have HT5 := Lib.hid (HT.out.trans hT5)
  clear hB5 hP5 hT5
  go_wp2_with fail
  go_ret
  exact ⟨rfl, HB5.out, L', hL', HP5.out, HT5.out⟩
set_option maxHeartbeats 2000000 in
theorem sclear_calls (w : World) {k : PW} {L : Lf} {s : PS} (h : IsP w k L (pcOf s)) (hl : fs L = s.l) (hwr : s.wr < 1000000000) (hfu : -9223372036854775808 ≤ k.fuse ∧ k.fuse ≤ 9223372036854775807) (t : Tx) :
    Calls Tryz.prog 47 #[svOf (some ⟨k.pb, 0, none⟩) t] w (DidP w k L (clearS k.fuse k.keep s)) := by
  have HB1 := Lib.hid ((Below.refl w.heap.size w).alloc (Nat.le_refl _) (svObj (some ⟨k.pb, 0, none⟩) t))
  obtain ⟨c0, c1, c2⟩ : (w.alloc (svObj (some ⟨k.pb, 0, none⟩) t)).drew.cell? ⟨w.heap.size, 0, none⟩ = some (.pointer (some ⟨k.pb, 0, none⟩)) ∧ (w.alloc (svObj (some ⟨k.pb, 0, none⟩) t)).drew.cell? ⟨w.heap.size, 1, none⟩ = some (.string (bs mnew)) ∧ (w.alloc (svObj (some ⟨k.pb, 0, none⟩) t)).drew.cell? ⟨w.heap.size, 2, none⟩ = some (.string (bs t)) := svc w (some ⟨k.pb, 0, none⟩) t
  have HP1 := Lib.hid (h.below HB1.out).drew
  have HL := Lib.hid hl
  have HLn := Lib.hid (listS_len hl h)
  have HT := Lib.hid (TurnP.of_below HB1.out k L)
  have HM := Lib.hid (mem_listS s mnew)
  have hsz := Lib.hid h.size
  clear h hl
  unfold svOf
  unfold svObj at *
  go_enter Tryz.func47, Tryz.ntmps47
  go_wp2_with fail
  refine start_ (n := 7) (S := (fun w' => w'.cell? ⟨w.heap.size, 0, none⟩ = some (.pointer (some ⟨k.pb, 0, none⟩)) ∧ w'.cell? ⟨w.heap.size, 1, none⟩ = some (.string (bs mnew)))) (ds := []) #[false, false, false, false, false, false, false] (by kernel_rfl) rfl rfl ⟨c0, c1⟩ (fun hHeld => ?_)
  have HBd := Lib.hid (show Below w.heap.size w (w.alloc (.cells #[.pointer (some ⟨k.pb, 0, none⟩), .string (bs mnew), .string (bs t)] 98)).drew from HB1.out.drew)
  generalize (w.alloc (.cells #[.pointer (some ⟨k.pb, 0, none⟩), .string (bs mnew), .string (bs t)] 98)).drew = W1 at *
  have HC := Lib.hid (And.intro c0 (And.intro c1 c2))
  refine pure_ (i := 0) (N := some 3) (v := ?_) (a' := ?_) #[true, false, false, false, false, false, false] rfl rfl (by kernel_rfl) (fun _ _ _ h => h) (Or.inl ⟨by rfl, ?_⟩) ?_ ?_
  rotate_left
  · intro w'
    go_simp
    with_reducible rfl
  rotate_left
  · simp only [Act.put, List.setIfInBounds_toArray, List.set_cons_zero, List.set_cons_succ, i64_w, i32_w]
    rfl
  refine take_ (i := 1) (N := some 4) (v := ?_) (a' := ?_) #[true, true, false, false, false, false, false] rfl rfl (by kernel_rfl) (fun _ _ _ h => h) (Or.inl ⟨by rfl, ?_⟩) hHeld ?_ ?_
  rotate_left
  · rintro w' ⟨g0, g1⟩
    go_simp
    with_reducible rfl
  rotate_left
  · simp only [Act.put, List.setIfInBounds_toArray, List.set_cons_zero, List.set_cons_succ, i64_w, i32_w]
    rfl
  refine pure_ (i := 3) (N := some 6) (v := ?_) (a' := ?_) #[true, true, false, true, false, false, false] rfl rfl (by kernel_rfl) (fun _ _ _ h => h) (Or.inl ⟨by rfl, ?_⟩) ?_ ?_
  rotate_left
  · intro w'
    go_simp
    with_reducible rfl
  rotate_left
  · simp only [Act.put, List.setIfInBounds_toArray, List.set_cons_zero, List.set_cons_succ, i64_w, i32_w]
    rfl
  refine take_ (i := 4) (N := some 7) (v := ?_) (a' := ?_) #[true, true, false, true, true, false, false] rfl rfl (by kernel_rfl) (fun _ _ _ h => h) (Or.inl ⟨by rfl, ?_⟩) hHeld ?_ ?_
  rotate_left
  · rintro w' ⟨g0, g1⟩
    go_simp
    with_reducible rfl
  rotate_left
  · simp only [Act.put, List.setIfInBounds_toArray, List.set_cons_zero, List.set_cons_succ, i64_w, i32_w]
    rfl
  refine one_ (i := 2) (N := some 5) #[true, true, true, true, true, false, false] rfl rfl (by kernel_rfl) (by decide) (fun K hK => ?_)
  refine goes_ Tryz.func92 (by kernel_rfl) rfl #[.pointer (some ⟨k.pb, 0, none⟩)] (by rfl) rfl rfl (by simp only [List.map_toArray, List.map_cons, List.map_nil]; rfl) ?_
  refine (plist_s _ HP1.out HL.out).mono ?_
  rintro e w5 ⟨A, cap, rfl, hN5, hB5⟩
  have HN5 := Lib.hid hN5
  have HB5 := Lib.hid hB5
  clear hN5 hB5
  refine ⟨_, rfl, ?_⟩
  refine hK.out _ _ ⟨cell_below HC.out.1 HB5.out, cell_below HC.out.2.1 HB5.out⟩ (fun hHeld => ?_)
  clear hK K
  refine norm_ (a' := ?_) ?_ ?_
  rotate_left
  · show Act.put _ (some 5) _ = _
    simp only [Act.put, List.setIfInBounds_toArray, List.set_cons_zero, List.set_cons_succ, i64_w, i32_w]
    rfl
  refine one_ (i := 5) (N := some 8) #[true, true, true, true, true, true, false] rfl rfl (by kernel_rfl) (by decide) (fun K hK => ?_)
  refine goes_ Tryz.func91 (by kernel_rfl) rfl #[.slice A (listS s).length cap, .string (bs mnew)] (by rfl) rfl rfl (by simp only [List.map_toArray, List.map_cons, List.map_nil]; rfl) ?_
  refine (contains_calls w5 A cap (listS s) HLn.out HN5.out mnew).mono ?_
  rintro e w6 ⟨rfl, hB6⟩
  have HB6 := Lib.hid (HB5.out.trans (hB6.mono HB5.out.size))
  clear hB6
  refine ⟨_, rfl, ?_⟩
  refine hK.out _ _ ⟨cell_below HC.out.1 HB6.out, cell_below HC.out.2.1 HB6.out⟩ (fun hHeld => ?_)
  clear hK K
  refine norm_ (a' := ?_) ?_ ?_
  rotate_left
  · show Act.put _ (some 8) _ = _
    simp only [Act.put, List.setIfInBounds_toArray, List.set_cons_zero, List.set_cons_succ, i64_w, i32_w]
    rfl
  refine pure_ (i := 6) (N := some 9) (v := ?_) (a' := ?_) #[true, true, true, true, true, true, true] rfl rfl (by kernel_rfl) (fun _ _ _ h => h) (Or.inl ⟨by rfl, ?_⟩) ?_ ?_
  rotate_left
  · intro w'
    go_simp
    with_reducible rfl
  rotate_left
  · simp only [Act.put, List.setIfInBounds_toArray, List.set_cons_zero, List.set_cons_succ, i64_w, i32_w]
    rfl
  refine done_ (by kernel_rfl) ?_
  generalize hm : decide (mnew ∈ listS s) = m at *
  have HB6 := Lib.hid HB6.out
  have HBz := Lib.hid (HBd.out.trans (HB6.out.mono HBd.out.size))
  have HTz := Lib.hid (TurnP.of_below HBz.out k L)
  have HP6 := Lib.hid (HP1.out.below HB6.out)
  have g0 := hHeld.1
  have g1 := hHeld.2
  clear hHeld c0 c1 c2 HC HB5 HN5 HT
  cases m with
  | false =>
    have hr := Lib.hid (show clearS k.fuse k.keep s = (s, 0) by unfold clearS; rw [if_neg (of_decide_eq_false HM.out.symm)])
    go_wp2_with fail
    go_ret
    exact ⟨by rw [hr.out]; rfl, HBz.out.mono hsz.out, L, by rw [hr.out]; exact HL.out, by rw [hr.out]; exact HP6.out, HTz.out⟩
  | true =>
    have hr := Lib.hid (show clearS k.fuse k.keep s = pw k.fuse k.keep (fun l => remove l mnew) s by unfold clearS; rw [if_pos (of_decide_eq_true HM.out.symm)])
    go_wp2_with fail
    refine (premove_calls w6 HP6.out HL.out hwr hfu mnew).mono ?_
    rintro e w7 ⟨rfl, hB7, L', hL', hP7, hT7⟩
    have HP7 := Lib.hid hP7
    have HB7 := Lib.hid ((HBz.out.mono hsz.out).trans hB7)
    have HT7 := Lib.hid (HTz.out.trans hT7)
    clear hB7 hP7 hT7
    go_wp2_with fail
    go_ret
    rw [hr.out]
    exact ⟨rfl, HB7.out, L', hL', HP7.out, HT7.out⟩
end Go.Proofs.YtbffgpfkgmhmhaaGreatDoor.Dw
