/- Append (function 29). -/
import Derived.Test.YtbffgpfkgmhmhaaVMb
set_option linter.unusedVariables false
set_option linter.unusedSimpArgs false
namespace Go.Proofs.Ytbffgpfkgmhmhaa.Dw
open Go.RowKit Go.Maps Go.Proofs.YtbffgpfkgmhmhaaW.PrintWords Go.Proofs.YtbffgpfkgmhmhaaW.PrintLast Go.Proofs.YtbffgpfkgmhmhaaW.PrintMore Go.Proofs.Dk
set_option maxRecDepth 100000
theorem append_bad (q : Nat) (l : FS) {n b : Tx} (h : nameOk n = false) : append q l n b = (l, 2) := by
  simp [Dk.append, h]
theorem append_none (q : Nat) {L : Lf} {n b : Tx} (h : nameOk n = true) (hg : get L n = none) : append q (fs L) n b = (fs L, 5) := by
  have := fs_get L n
  rw [hg] at this
  simp [Dk.append, h, this]
theorem append_full (q : Nat) {L : Lf} {n b : Tx} (h : nameOk n = true) {p : Nat × Fl} (hg : get L n = some p) (hf : 65536 < p.2.b.length + b.length ∨ q < used (fs L) + b.length) : append q (fs L) n b = (fs L, 7) := by
  have := fs_get L n
  rw [hg] at this
  simp [Dk.append, h, this, hf]
theorem append_fits (q : Nat) {L : Lf} {n b : Tx} (h : nameOk n = true) {p : Nat × Fl} (hg : get L n = some p) (hf : ¬ (65536 < p.2.b.length + b.length ∨ q < used (fs L) + b.length)) : append q (fs L) n b = (upd (fs L) n (fun f => ⟨f.b ++ b, f.s⟩), 0) := by
  have := fs_get L n
  rw [hg] at this
  simp [Dk.append, h, this, hf]
theorem bs_append (a b : Tx) : bs a ++ bs b = bs (a ++ b) := by
  apply ByteArray.ext
  simp [bs, ByteArray.data_append]
set_option maxHeartbeats 2000000 in
theorem append_calls (w : World) {base d mb q : Nat} {L : Lf} (hD : IsD w base d mb q L) (n b : Tx) (hb : b.length ≤ 100000) :
    Calls Try.prog 29 #[.pointer (some ⟨d, 0, none⟩), .string (bs n), .string (bs b)] w (Did w base d mb q (append q (fs L) n b)) := by
  have HF := Lib.hid (find0_calls w hD n)
  have HD := Lib.hid hD
  clear hD
  go_enter Try.func29, Try.ntmps29
  go_wp2_with fail
  refine HF.out.mono ?_
  rintro e w2 ⟨rfl, hB2⟩
  have HB2 := Lib.hid hB2
  have HD2 := Lib.hid (HD.out.below HB2.out)
  have HB3 := Lib.hid (HB2.out.mono HD.out.size)
  clear hB2 HF
  cases hok : nameOk n with
  | false =>
    obtain ⟨h1, h2⟩ := fe_bad L hok
    have hr := Lib.hid (append_bad q (fs L) (b := b) hok)
    rw [h1, h2]
    clear h1 h2 hok
    go_wp2_with fail
    go_ret
    exact ⟨by rw [hr.out]; rfl, HB3.out, L, by rw [hr.out], HD2.out⟩
  | true =>
    cases hg : get L n with
    | none =>
      obtain ⟨h1, h2⟩ := fe_none hok hg
      have hr := Lib.hid (append_none q (b := b) hok hg)
      rw [h1, h2]
      clear h1 h2 hok hg
      go_wp2_with fail
      go_ret
      exact ⟨by rw [hr.out]; rfl, HB3.out, L, by rw [hr.out], HD2.out⟩
    | some p =>
      obtain ⟨h1, h2⟩ := fe_some hok hg
      have hfull := Lib.hid (append_full q (b := b) hok hg)
      have hfits := Lib.hid (append_fits q (b := b) hok hg)
      have HG := Lib.hid hg
      have hlow := HD2.out.flow _ (get_mem hg)
      have hlen := HD2.out.len _ (get_mem hg)
      dsimp only at hlen hlow
      have c0 := HD2.out.f0 hg
      have hsb := bs_size b
      have hsf := bs_size p.2.b
      have dw27 : IntKind.i64.wrap (65536 - (p.2.b.length : Int)) = 65536 - (p.2.b.length : Int) := IntWalk.i64_in _ ⟨by omega, by omega⟩
      rw [h1, h2]
      clear h1 h2 hok hg
      by_cases hbig : 65536 < p.2.b.length + b.length
      · have d28 : decide (65536 - (p.2.b.length : Int) < (b.length : Int)) = true := decide_eq_true (by omega)
        have hr := Lib.hid (hfull.out (Or.inl hbig))
        clear hbig hfull hfits
        go_wp2_with fail
        go_quiet (fail)
        go_wp2_with fail
        go_ret
        exact ⟨by rw [hr.out]; rfl, pw_below_drewN HB3.out nq, L, by rw [hr.out], HD2.out.drewN nq⟩
      · have d28 : decide (65536 - (p.2.b.length : Int) < (b.length : Int)) = false := decide_eq_false (by omega)
        have hroom : used (fs L) ≤ q := HD2.out.ok.room
        have hquo := HD2.out.ok.quota
        have dw38 : IntKind.i64.wrap ((q : Int) - (used (fs L) : Int)) = (q : Int) - (used (fs L) : Int) := IntWalk.i64_in _ ⟨by omega, by omega⟩
        have HUs := Lib.hid (fun (W : World) (h : IsD W base d mb q L) => used_calls W h)
        by_cases hbig2 : q < used (fs L) + b.length
        · have d39 : decide ((q : Int) - (used (fs L) : Int) < (b.length : Int)) = true := decide_eq_true (by omega)
          have hr := Lib.hid (hfull.out (Or.inr hbig2))
          clear hbig hbig2 hfull hfits hroom hquo
          go_wp2_with fail
          refine start_ (n := 22) (S := (fun w' => IsD w' base d mb q L)) (ds := []) #[false, false, false, false, false, false, false, false, false, false, false, false, false, false, false, false, false, false, false, false, false, false] (by kernel_rfl) rfl rfl (HD2.out.below ((Below.refl _ w2).drew)) (fun hHeld => ?_)
          refine pure_ (i := 0) (N := some 20) (v := ?_) (a' := ?_) #[true, false, false, false, false, false, false, false, false, false, false, false, false, false, false, false, false, false, false, false, false, false] rfl rfl (by kernel_rfl) (fun _ _ _ h => h) (Or.inl ⟨by rfl, ?_⟩) ?_ ?_
          rotate_left
          · intro w'
            go_simp
            with_reducible rfl
          rotate_left
          · simp only [Act.put, List.setIfInBounds_toArray, List.set_cons_zero, List.set_cons_succ, i64_w, i32_w]
            rfl
          refine pure_ (i := 1) (N := some 21) (v := ?_) (a' := ?_) #[true, true, false, false, false, false, false, false, false, false, false, false, false, false, false, false, false, false, false, false, false, false] rfl rfl (by kernel_rfl) (fun _ _ _ h => h) (Or.inl ⟨by rfl, ?_⟩) ?_ ?_
          rotate_left
          · intro w'
            go_simp
            with_reducible rfl
          rotate_left
          · simp only [Act.put, List.setIfInBounds_toArray, List.set_cons_zero, List.set_cons_succ, i64_w, i32_w]
            rfl
          refine pure_ (i := 2) (N := some 22) (v := ?_) (a' := ?_) #[true, true, true, false, false, false, false, false, false, false, false, false, false, false, false, false, false, false, false, false, false, false] rfl rfl (by kernel_rfl) (fun _ _ _ h => h) (Or.inl ⟨by rfl, ?_⟩) ?_ ?_
          rotate_left
          · intro w'
            go_simp
            with_reducible rfl
          rotate_left
          · simp only [Act.put, List.setIfInBounds_toArray, List.set_cons_zero, List.set_cons_succ, i64_w, i32_w]
            rfl
          refine pure_ (i := 3) (N := some 23) (v := ?_) (a' := ?_) #[true, true, true, true, false, false, false, false, false, false, false, false, false, false, false, false, false, false, false, false, false, false] rfl rfl (by kernel_rfl) (fun _ _ _ h => h) (Or.inl ⟨by rfl, ?_⟩) ?_ ?_
          rotate_left
          · intro w'
            go_simp
            with_reducible rfl
          rotate_left
          · simp only [Act.put, List.setIfInBounds_toArray, List.set_cons_zero, List.set_cons_succ, i64_w, i32_w]
            rfl
          refine pure_ (i := 4) (N := some 24) (v := ?_) (a' := ?_) #[true, true, true, true, true, false, false, false, false, false, false, false, false, false, false, false, false, false, false, false, false, false] rfl rfl (by kernel_rfl) (fun _ _ _ h => h) (Or.inl ⟨by rfl, ?_⟩) ?_ ?_
          rotate_left
          · intro w'
            go_simp
            with_reducible rfl
          rotate_left
          · simp only [Act.put, List.setIfInBounds_toArray, List.set_cons_zero, List.set_cons_succ, i64_w, i32_w]
            rfl
          refine take_ (i := 5) (N := some 25) (v := ?_) (a' := ?_) #[true, true, true, true, true, true, false, false, false, false, false, false, false, false, false, false, false, false, false, false, false, false] rfl rfl (by kernel_rfl) (fun _ _ _ h => h) (Or.inl ⟨by rfl, ?_⟩) hHeld ?_ ?_
          rotate_left
          · rintro w' hS
            have c0' := hS.f0 HG.out
            go_simp
            with_reducible rfl
          rotate_left
          · simp only [Act.put, List.setIfInBounds_toArray, List.set_cons_zero, List.set_cons_succ, i64_w, i32_w]
            rfl
          refine pure_ (i := 6) (N := some 26) (v := ?_) (a' := ?_) #[true, true, true, true, true, true, true, false, false, false, false, false, false, false, false, false, false, false, false, false, false, false] rfl rfl (by kernel_rfl) (fun _ _ _ h => h) (Or.inl ⟨by rfl, ?_⟩) ?_ ?_
          rotate_left
          · intro w'
            go_simp
            with_reducible rfl
          rotate_left
          · simp only [Act.put, List.setIfInBounds_toArray, List.set_cons_zero, List.set_cons_succ, i64_w, i32_w]
            rfl
          refine pure_ (i := 7) (N := some 27) (v := ?_) (a' := ?_) #[true, true, true, true, true, true, true, true, false, false, false, false, false, false, false, false, false, false, false, false, false, false] rfl rfl (by kernel_rfl) (fun _ _ _ h => h) (Or.inl ⟨by rfl, ?_⟩) ?_ ?_
          rotate_left
          · intro w'
            go_simp
            with_reducible rfl
          rotate_left
          · simp only [Act.put, List.setIfInBounds_toArray, List.set_cons_zero, List.set_cons_succ, i64_w, i32_w]
            rfl
          refine pure_ (i := 8) (N := some 28) (v := ?_) (a' := ?_) #[true, true, true, true, true, true, true, true, true, false, false, false, false, false, false, false, false, false, false, false, false, false] rfl rfl (by kernel_rfl) (fun _ _ _ h => h) (Or.inl ⟨by rfl, ?_⟩) ?_ ?_
          rotate_left
          · intro w'
            go_simp
            with_reducible rfl
          rotate_left
          · simp only [Act.put, List.setIfInBounds_toArray, List.set_cons_zero, List.set_cons_succ, i64_w, i32_w]
            rfl
          refine pure_ (i := 9) (N := some 29) (v := ?_) (a' := ?_) #[true, true, true, true, true, true, true, true, true, true, false, false, false, false, false, false, false, false, false, false, false, false] rfl rfl (by kernel_rfl) (fun _ _ _ h => h) (Or.inl ⟨by rfl, ?_⟩) ?_ ?_
          rotate_left
          · intro w'
            go_simp
            with_reducible rfl
          rotate_left
          · simp only [Act.put, List.setIfInBounds_toArray, List.set_cons_zero, List.set_cons_succ, i64_w, i32_w]
            rfl
          refine pure_ (i := 10) (N := some 30) (v := ?_) (a' := ?_) #[true, true, true, true, true, true, true, true, true, true, true, false, false, false, false, false, false, false, false, false, false, false] rfl rfl (by kernel_rfl) (fun _ _ _ h => h) (Or.inl ⟨by rfl, ?_⟩) ?_ ?_
          rotate_left
          · intro w'
            go_simp
            with_reducible rfl
          rotate_left
          · simp only [Act.put, List.setIfInBounds_toArray, List.set_cons_zero, List.set_cons_succ, i64_w, i32_w]
            rfl
          refine pure_ (i := 11) (N := some 31) (v := ?_) (a' := ?_) #[true, true, true, true, true, true, true, true, true, true, true, true, false, false, false, false, false, false, false, false, false, false] rfl rfl (by kernel_rfl) (fun _ _ _ h => h) (Or.inl ⟨by rfl, ?_⟩) ?_ ?_
          rotate_left
          · intro w'
            go_simp
            with_reducible rfl
          rotate_left
          · simp only [Act.put, List.setIfInBounds_toArray, List.set_cons_zero, List.set_cons_succ, i64_w, i32_w]
            rfl
          refine pure_ (i := 12) (N := some 32) (v := ?_) (a' := ?_) #[true, true, true, true, true, true, true, true, true, true, true, true, true, false, false, false, false, false, false, false, false, false] rfl rfl (by kernel_rfl) (fun _ _ _ h => h) (Or.inl ⟨by rfl, ?_⟩) ?_ ?_
          rotate_left
          · intro w'
            go_simp
            with_reducible rfl
          rotate_left
          · simp only [Act.put, List.setIfInBounds_toArray, List.set_cons_zero, List.set_cons_succ, i64_w, i32_w]
            rfl
          refine pure_ (i := 13) (N := some 33) (v := ?_) (a' := ?_) #[true, true, true, true, true, true, true, true, true, true, true, true, true, true, false, false, false, false, false, false, false, false] rfl rfl (by kernel_rfl) (fun _ _ _ h => h) (Or.inl ⟨by rfl, ?_⟩) ?_ ?_
          rotate_left
          · intro w'
            go_simp
            with_reducible rfl
          rotate_left
          · simp only [Act.put, List.setIfInBounds_toArray, List.set_cons_zero, List.set_cons_succ, i64_w, i32_w]
            rfl
          refine pure_ (i := 14) (N := some 34) (v := ?_) (a' := ?_) #[true, true, true, true, true, true, true, true, true, true, true, true, true, true, true, false, false, false, false, false, false, false] rfl rfl (by kernel_rfl) (fun _ _ _ h => h) (Or.inl ⟨by rfl, ?_⟩) ?_ ?_
          rotate_left
          · intro w'
            go_simp
            with_reducible rfl
          rotate_left
          · simp only [Act.put, List.setIfInBounds_toArray, List.set_cons_zero, List.set_cons_succ, i64_w, i32_w]
            rfl
          refine take_ (i := 15) (N := some 35) (v := ?_) (a' := ?_) #[true, true, true, true, true, true, true, true, true, true, true, true, true, true, true, true, false, false, false, false, false, false] rfl rfl (by kernel_rfl) (fun _ _ _ h => h) (Or.inl ⟨by rfl, ?_⟩) hHeld ?_ ?_
          rotate_left
          · rintro w' hS
            have q0' := hS.q0
            go_simp
            with_reducible rfl
          rotate_left
          · simp only [Act.put, List.setIfInBounds_toArray, List.set_cons_zero, List.set_cons_succ, i64_w, i32_w]
            rfl
          refine pure_ (i := 16) (N := some 36) (v := ?_) (a' := ?_) #[true, true, true, true, true, true, true, true, true, true, true, true, true, true, true, true, true, false, false, false, false, false] rfl rfl (by kernel_rfl) (fun _ _ _ h => h) (Or.inl ⟨by rfl, ?_⟩) ?_ ?_
          rotate_left
          · intro w'
            go_simp
            with_reducible rfl
          rotate_left
          · simp only [Act.put, List.setIfInBounds_toArray, List.set_cons_zero, List.set_cons_succ, i64_w, i32_w]
            rfl
          refine one_ (i := 17) (N := some 37) #[true, true, true, true, true, true, true, true, true, true, true, true, true, true, true, true, true, true, false, false, false, false] rfl rfl (by kernel_rfl) (by decide) (fun K hK => ?_)
          refine goes_ Try.func14 (by kernel_rfl) rfl #[.pointer (some ⟨d, 0, none⟩)] (by rfl) rfl rfl (by simp only [List.map_toArray, List.map_cons, List.map_nil]; rfl) ?_
          refine (HUs.out _ hHeld).mono ?_
          rintro e w5 ⟨rfl, hB5⟩
          have HB5 := Lib.hid ((HB3.out.drew).trans (hB5.mono (show base ≤ w2.drew.heap.size from HD2.out.size)))
          have HD5 := Lib.hid (hHeld.below hB5)
          clear hB5
          refine ⟨_, rfl, ?_⟩
          refine hK.out _ _ HD5.out (fun hHeld => ?_)
          clear hK K
          refine norm_ (a' := ?_) ?_ ?_
          rotate_left
          · show Act.put _ (some 37) _ = _
            simp only [Act.put, List.setIfInBounds_toArray, List.set_cons_zero, List.set_cons_succ, i64_w, i32_w]
            rfl
          refine pure_ (i := 18) (N := some 38) (v := ?_) (a' := ?_) #[true, true, true, true, true, true, true, true, true, true, true, true, true, true, true, true, true, true, true, false, false, false] rfl rfl (by kernel_rfl) (fun _ _ _ h => h) (Or.inl ⟨by rfl, ?_⟩) ?_ ?_
          rotate_left
          · intro w'
            go_simp
            with_reducible rfl
          rotate_left
          · simp only [Act.put, List.setIfInBounds_toArray, List.set_cons_zero, List.set_cons_succ, i64_w, i32_w]
            rfl
          refine pure_ (i := 19) (N := some 39) (v := ?_) (a' := ?_) #[true, true, true, true, true, true, true, true, true, true, true, true, true, true, true, true, true, true, true, true, false, false] rfl rfl (by kernel_rfl) (fun _ _ _ h => h) (Or.inl ⟨by rfl, ?_⟩) ?_ ?_
          rotate_left
          · intro w'
            go_simp
            with_reducible rfl
          rotate_left
          · simp only [Act.put, List.setIfInBounds_toArray, List.set_cons_zero, List.set_cons_succ, i64_w, i32_w]
            rfl
          refine pure_ (i := 20) (N := some 40) (v := ?_) (a' := ?_) #[true, true, true, true, true, true, true, true, true, true, true, true, true, true, true, true, true, true, true, true, true, false] rfl rfl (by kernel_rfl) (fun _ _ _ h => h) (Or.inl ⟨by rfl, ?_⟩) ?_ ?_
          rotate_left
          · intro w'
            go_simp
            with_reducible rfl
          rotate_left
          · simp only [Act.put, List.setIfInBounds_toArray, List.set_cons_zero, List.set_cons_succ, i64_w, i32_w]
            rfl
          refine pure_ (i := 21) (N := some 19) (v := ?_) (a' := ?_) #[true, true, true, true, true, true, true, true, true, true, true, true, true, true, true, true, true, true, true, true, true, true] rfl rfl (by kernel_rfl) (fun _ _ _ h => h) (Or.inl ⟨by rfl, ?_⟩) ?_ ?_
          rotate_left
          · intro w'
            go_simp
            with_reducible rfl
          rotate_left
          · simp only [Act.put, List.setIfInBounds_toArray, List.set_cons_zero, List.set_cons_succ, i64_w, i32_w]
            rfl
          refine done_ (by kernel_rfl) ?_
          go_wp2_with fail
          go_ret
          exact ⟨by rw [hr.out]; rfl, HB5.out, L, by rw [hr.out], HD5.out⟩
        · have d39 : decide ((q : Int) - (used (fs L) : Int) < (b.length : Int)) = false := decide_eq_false (by omega)
          have hr := Lib.hid (hfits.out (by omega))
          have hcat : ¬ 9223372036854775807 < (bs p.2.b).size + (bs b).size := by omega
          have hjoin : bs p.2.b ++ bs b = bs (p.2.b ++ b) := bs_append _ _
          clear hbig hbig2 hfull hfits hroom hquo
          go_wp2_with fail
          refine start_ (n := 22) (S := (fun w' => IsD w' base d mb q L)) (ds := []) #[false, false, false, false, false, false, false, false, false, false, false, false, false, false, false, false, false, false, false, false, false, false] (by kernel_rfl) rfl rfl (HD2.out.below ((Below.refl _ w2).drew)) (fun hHeld => ?_)
          refine pure_ (i := 0) (N := some 20) (v := ?_) (a' := ?_) #[true, false, false, false, false, false, false, false, false, false, false, false, false, false, false, false, false, false, false, false, false, false] rfl rfl (by kernel_rfl) (fun _ _ _ h => h) (Or.inl ⟨by rfl, ?_⟩) ?_ ?_
          rotate_left
          · intro w'
            go_simp
            with_reducible rfl
          rotate_left
          · simp only [Act.put, List.setIfInBounds_toArray, List.set_cons_zero, List.set_cons_succ, i64_w, i32_w]
            rfl
          refine pure_ (i := 1) (N := some 21) (v := ?_) (a' := ?_) #[true, true, false, false, false, false, false, false, false, false, false, false, false, false, false, false, false, false, false, false, false, false] rfl rfl (by kernel_rfl) (fun _ _ _ h => h) (Or.inl ⟨by rfl, ?_⟩) ?_ ?_
          rotate_left
          · intro w'
            go_simp
            with_reducible rfl
          rotate_left
          · simp only [Act.put, List.setIfInBounds_toArray, List.set_cons_zero, List.set_cons_succ, i64_w, i32_w]
            rfl
          refine pure_ (i := 2) (N := some 22) (v := ?_) (a' := ?_) #[true, true, true, false, false, false, false, false, false, false, false, false, false, false, false, false, false, false, false, false, false, false] rfl rfl (by kernel_rfl) (fun _ _ _ h => h) (Or.inl ⟨by rfl, ?_⟩) ?_ ?_
          rotate_left
          · intro w'
            go_simp
            with_reducible rfl
          rotate_left
          · simp only [Act.put, List.setIfInBounds_toArray, List.set_cons_zero, List.set_cons_succ, i64_w, i32_w]
            rfl
          refine pure_ (i := 3) (N := some 23) (v := ?_) (a' := ?_) #[true, true, true, true, false, false, false, false, false, false, false, false, false, false, false, false, false, false, false, false, false, false] rfl rfl (by kernel_rfl) (fun _ _ _ h => h) (Or.inl ⟨by rfl, ?_⟩) ?_ ?_
          rotate_left
          · intro w'
            go_simp
            with_reducible rfl
          rotate_left
          · simp only [Act.put, List.setIfInBounds_toArray, List.set_cons_zero, List.set_cons_succ, i64_w, i32_w]
            rfl
          refine pure_ (i := 4) (N := some 24) (v := ?_) (a' := ?_) #[true, true, true, true, true, false, false, false, false, false, false, false, false, false, false, false, false, false, false, false, false, false] rfl rfl (by kernel_rfl) (fun _ _ _ h => h) (Or.inl ⟨by rfl, ?_⟩) ?_ ?_
          rotate_left
          · intro w'
            go_simp
            with_reducible rfl
          rotate_left
          · simp only [Act.put, List.setIfInBounds_toArray, List.set_cons_zero, List.set_cons_succ, i64_w, i32_w]
            rfl
          refine take_ (i := 5) (N := some 25) (v := ?_) (a' := ?_) #[true, true, true, true, true, true, false, false, false, false, false, false, false, false, false, false, false, false, false, false, false, false] rfl rfl (by kernel_rfl) (fun _ _ _ h => h) (Or.inl ⟨by rfl, ?_⟩) hHeld ?_ ?_
          rotate_left
          · rintro w' hS
            have c0' := hS.f0 HG.out
            go_simp
            with_reducible rfl
          rotate_left
          · simp only [Act.put, List.setIfInBounds_toArray, List.set_cons_zero, List.set_cons_succ, i64_w, i32_w]
            rfl
          refine pure_ (i := 6) (N := some 26) (v := ?_) (a' := ?_) #[true, true, true, true, true, true, true, false, false, false, false, false, false, false, false, false, false, false, false, false, false, false] rfl rfl (by kernel_rfl) (fun _ _ _ h => h) (Or.inl ⟨by rfl, ?_⟩) ?_ ?_
          rotate_left
          · intro w'
            go_simp
            with_reducible rfl
          rotate_left
          · simp only [Act.put, List.setIfInBounds_toArray, List.set_cons_zero, List.set_cons_succ, i64_w, i32_w]
            rfl
          refine pure_ (i := 7) (N := some 27) (v := ?_) (a' := ?_) #[true, true, true, true, true, true, true, true, false, false, false, false, false, false, false, false, false, false, false, false, false, false] rfl rfl (by kernel_rfl) (fun _ _ _ h => h) (Or.inl ⟨by rfl, ?_⟩) ?_ ?_
          rotate_left
          · intro w'
            go_simp
            with_reducible rfl
          rotate_left
          · simp only [Act.put, List.setIfInBounds_toArray, List.set_cons_zero, List.set_cons_succ, i64_w, i32_w]
            rfl
          refine pure_ (i := 8) (N := some 28) (v := ?_) (a' := ?_) #[true, true, true, true, true, true, true, true, true, false, false, false, false, false, false, false, false, false, false, false, false, false] rfl rfl (by kernel_rfl) (fun _ _ _ h => h) (Or.inl ⟨by rfl, ?_⟩) ?_ ?_
          rotate_left
          · intro w'
            go_simp
            with_reducible rfl
          rotate_left
          · simp only [Act.put, List.setIfInBounds_toArray, List.set_cons_zero, List.set_cons_succ, i64_w, i32_w]
            rfl
          refine pure_ (i := 9) (N := some 29) (v := ?_) (a' := ?_) #[true, true, true, true, true, true, true, true, true, true, false, false, false, false, false, false, false, false, false, false, false, false] rfl rfl (by kernel_rfl) (fun _ _ _ h => h) (Or.inl ⟨by rfl, ?_⟩) ?_ ?_
          rotate_left
          · intro w'
            go_simp
            with_reducible rfl
          rotate_left
          · simp only [Act.put, List.setIfInBounds_toArray, List.set_cons_zero, List.set_cons_succ, i64_w, i32_w]
            rfl
          refine pure_ (i := 10) (N := some 30) (v := ?_) (a' := ?_) #[true, true, true, true, true, true, true, true, true, true, true, false, false, false, false, false, false, false, false, false, false, false] rfl rfl (by kernel_rfl) (fun _ _ _ h => h) (Or.inl ⟨by rfl, ?_⟩) ?_ ?_
          rotate_left
          · intro w'
            go_simp
            with_reducible rfl
          rotate_left
          · simp only [Act.put, List.setIfInBounds_toArray, List.set_cons_zero, List.set_cons_succ, i64_w, i32_w]
            rfl
          refine pure_ (i := 11) (N := some 31) (v := ?_) (a' := ?_) #[true, true, true, true, true, true, true, true, true, true, true, true, false, false, false, false, false, false, false, false, false, false] rfl rfl (by kernel_rfl) (fun _ _ _ h => h) (Or.inl ⟨by rfl, ?_⟩) ?_ ?_
          rotate_left
          · intro w'
            go_simp
            with_reducible rfl
          rotate_left
          · simp only [Act.put, List.setIfInBounds_toArray, List.set_cons_zero, List.set_cons_succ, i64_w, i32_w]
            rfl
          refine pure_ (i := 12) (N := some 32) (v := ?_) (a' := ?_) #[true, true, true, true, true, true, true, true, true, true, true, true, true, false, false, false, false, false, false, false, false, false] rfl rfl (by kernel_rfl) (fun _ _ _ h => h) (Or.inl ⟨by rfl, ?_⟩) ?_ ?_
          rotate_left
          · intro w'
            go_simp
            with_reducible rfl
          rotate_left
          · simp only [Act.put, List.setIfInBounds_toArray, List.set_cons_zero, List.set_cons_succ, i64_w, i32_w]
            rfl
          refine pure_ (i := 13) (N := some 33) (v := ?_) (a' := ?_) #[true, true, true, true, true, true, true, true, true, true, true, true, true, true, false, false, false, false, false, false, false, false] rfl rfl (by kernel_rfl) (fun _ _ _ h => h) (Or.inl ⟨by rfl, ?_⟩) ?_ ?_
          rotate_left
          · intro w'
            go_simp
            with_reducible rfl
          rotate_left
          · simp only [Act.put, List.setIfInBounds_toArray, List.set_cons_zero, List.set_cons_succ, i64_w, i32_w]
            rfl
          refine pure_ (i := 14) (N := some 34) (v := ?_) (a' := ?_) #[true, true, true, true, true, true, true, true, true, true, true, true, true, true, true, false, false, false, false, false, false, false] rfl rfl (by kernel_rfl) (fun _ _ _ h => h) (Or.inl ⟨by rfl, ?_⟩) ?_ ?_
          rotate_left
          · intro w'
            go_simp
            with_reducible rfl
          rotate_left
          · simp only [Act.put, List.setIfInBounds_toArray, List.set_cons_zero, List.set_cons_succ, i64_w, i32_w]
            rfl
          refine take_ (i := 15) (N := some 35) (v := ?_) (a' := ?_) #[true, true, true, true, true, true, true, true, true, true, true, true, true, true, true, true, false, false, false, false, false, false] rfl rfl (by kernel_rfl) (fun _ _ _ h => h) (Or.inl ⟨by rfl, ?_⟩) hHeld ?_ ?_
          rotate_left
          · rintro w' hS
            have q0' := hS.q0
            go_simp
            with_reducible rfl
          rotate_left
          · simp only [Act.put, List.setIfInBounds_toArray, List.set_cons_zero, List.set_cons_succ, i64_w, i32_w]
            rfl
          refine pure_ (i := 16) (N := some 36) (v := ?_) (a' := ?_) #[true, true, true, true, true, true, true, true, true, true, true, true, true, true, true, true, true, false, false, false, false, false] rfl rfl (by kernel_rfl) (fun _ _ _ h => h) (Or.inl ⟨by rfl, ?_⟩) ?_ ?_
          rotate_left
          · intro w'
            go_simp
            with_reducible rfl
          rotate_left
          · simp only [Act.put, List.setIfInBounds_toArray, List.set_cons_zero, List.set_cons_succ, i64_w, i32_w]
            rfl
          refine one_ (i := 17) (N := some 37) #[true, true, true, true, true, true, true, true, true, true, true, true, true, true, true, true, true, true, false, false, false, false] rfl rfl (by kernel_rfl) (by decide) (fun K hK => ?_)
          refine goes_ Try.func14 (by kernel_rfl) rfl #[.pointer (some ⟨d, 0, none⟩)] (by rfl) rfl rfl (by simp only [List.map_toArray, List.map_cons, List.map_nil]; rfl) ?_
          refine (HUs.out _ hHeld).mono ?_
          rintro e w5 ⟨rfl, hB5⟩
          have HB5 := Lib.hid ((HB3.out.drew).trans (hB5.mono (show base ≤ w2.drew.heap.size from HD2.out.size)))
          have HD5 := Lib.hid (hHeld.below hB5)
          clear hB5
          refine ⟨_, rfl, ?_⟩
          refine hK.out _ _ HD5.out (fun hHeld => ?_)
          clear hK K
          refine norm_ (a' := ?_) ?_ ?_
          rotate_left
          · show Act.put _ (some 37) _ = _
            simp only [Act.put, List.setIfInBounds_toArray, List.set_cons_zero, List.set_cons_succ, i64_w, i32_w]
            rfl
          refine pure_ (i := 18) (N := some 38) (v := ?_) (a' := ?_) #[true, true, true, true, true, true, true, true, true, true, true, true, true, true, true, true, true, true, true, false, false, false] rfl rfl (by kernel_rfl) (fun _ _ _ h => h) (Or.inl ⟨by rfl, ?_⟩) ?_ ?_
          rotate_left
          · intro w'
            go_simp
            with_reducible rfl
          rotate_left
          · simp only [Act.put, List.setIfInBounds_toArray, List.set_cons_zero, List.set_cons_succ, i64_w, i32_w]
            rfl
          refine pure_ (i := 19) (N := some 39) (v := ?_) (a' := ?_) #[true, true, true, true, true, true, true, true, true, true, true, true, true, true, true, true, true, true, true, true, false, false] rfl rfl (by kernel_rfl) (fun _ _ _ h => h) (Or.inl ⟨by rfl, ?_⟩) ?_ ?_
          rotate_left
          · intro w'
            go_simp
            with_reducible rfl
          rotate_left
          · simp only [Act.put, List.setIfInBounds_toArray, List.set_cons_zero, List.set_cons_succ, i64_w, i32_w]
            rfl
          refine pure_ (i := 20) (N := some 40) (v := ?_) (a' := ?_) #[true, true, true, true, true, true, true, true, true, true, true, true, true, true, true, true, true, true, true, true, true, false] rfl rfl (by kernel_rfl) (fun _ _ _ h => h) (Or.inl ⟨by rfl, ?_⟩) ?_ ?_
          rotate_left
          · intro w'
            go_simp
            with_reducible rfl
          rotate_left
          · simp only [Act.put, List.setIfInBounds_toArray, List.set_cons_zero, List.set_cons_succ, i64_w, i32_w]
            rfl
          refine pure_ (i := 21) (N := some 19) (v := ?_) (a' := ?_) #[true, true, true, true, true, true, true, true, true, true, true, true, true, true, true, true, true, true, true, true, true, true] rfl rfl (by kernel_rfl) (fun _ _ _ h => h) (Or.inl ⟨by rfl, ?_⟩) ?_ ?_
          rotate_left
          · intro w'
            go_simp
            with_reducible rfl
          rotate_left
          · simp only [Act.put, List.setIfInBounds_toArray, List.set_cons_zero, List.set_cons_succ, i64_w, i32_w]
            rfl
          refine done_ (by kernel_rfl) ?_
          have c5 := HD5.out.f0 HG.out
          have hfr := blk_frozen (HD5.out.file _ (get_mem HG.out)) 0
          go_wp2_with fail
          go_ret
          refine ⟨by rw [hr.out]; rfl, HB5.out.setCell hlow _, upd L n (fun x => (x.1, ⟨x.2.b ++ b, x.2.s⟩)), ?_, ?_⟩
          · rw [hr.out]; exact fs_upd L n (fun f => ⟨f.b ++ b, f.s⟩)
          · have hk := HD5.out.ok.append n b
            have hsy : append q (fs L) n b = (upd (fs L) n (fun f => ⟨f.b ++ b, f.s⟩), 0) := hr.out
            rw [hsy] at hk
            exact HD5.out.turn HG.out (fun f => ⟨f.b ++ b, f.s⟩) (set_file0 (HD5.out.file _ (get_mem HG.out)) _) (fun k hk => Below.heap_setCell _ _ _ _ hk) hk
end Go.Proofs.Ytbffgpfkgmhmhaa.Dw
/- The chapter's disk: some, torn, works (functions 27, 28, 8). -/
set_option linter.unusedVariables false
set_option linter.unusedSimpArgs false
namespace Go.Proofs.Ytbffgpfkgmhmhaa.Dw
open Go.RowKit Go.Maps Go.Proofs.YtbffgpfkgmhmhaaW.PrintWords Go.Proofs.YtbffgpfkgmhmhaaW.PrintLast Go.Proofs.YtbffgpfkgmhmhaaW.PrintMore Go.Proofs.Dk
set_option maxRecDepth 100000
def someFS : FS := [([97], ⟨[49, 50, 51, 52, 53], 3⟩)]
theorem some_calls (w : World) : Calls Try.prog 27 #[] w fun e w' => ∃ d mb L, e = .returned (.pointer (some ⟨d, 0, none⟩)) ∧ fs L = someFS ∧ IsD w' w.heap.size d mb 10 L ∧ Below w.heap.size w w' := by
  go_enter Try.func27, Try.ntmps27
  go_wp2_with fail
  refine (new_ok w 10 (by decide)).mono ?_
  rintro e w1 ⟨d, mb, rfl, hD, hB⟩
  have HD := Lib.hid hD
  have HB := Lib.hid hB
  clear hD hB
  go_wp2_with fail
  refine (create_calls w1 HD.out [97]).mono ?_
  rintro e w2 ⟨rfl, hB2, L2, hL2, hD2⟩
  have HL2 := Lib.hid (show fs L2 = [([97], ⟨[], 0⟩)] from hL2.trans (by rfl))
  have HD2 := Lib.hid hD2
  have HB2 := Lib.hid (HB.out.trans hB2)
  clear hL2 hD2 hB2 HD HB
  go_wp2_with fail
  refine (append_calls w2 HD2.out [97] [49, 50, 51] (by decide)).mono ?_
  rintro e w3 ⟨rfl, hB3, L3, hL3, hD3⟩
  have HL3 := Lib.hid (show fs L3 = [([97], ⟨[49, 50, 51], 0⟩)] from hL3.trans (by rw [HL2.out]; rfl))
  have HD3 := Lib.hid hD3
  have HB3 := Lib.hid (HB2.out.trans hB3)
  clear hL3 hD3 hB3 HD2 HB2
  go_wp2_with fail
  refine (sync_calls w3 HD3.out [97]).mono ?_
  rintro e w4 ⟨rfl, hB4, L4, hL4, hD4⟩
  have HL4 := Lib.hid (show fs L4 = [([97], ⟨[49, 50, 51], 3⟩)] from hL4.trans (by rw [HL3.out]; rfl))
  have HD4 := Lib.hid hD4
  have HB4 := Lib.hid (HB3.out.trans hB4)
  clear hL4 hD4 hB4 HD3 HB3
  go_wp2_with fail
  refine (append_calls w4 HD4.out [97] [52, 53] (by decide)).mono ?_
  rintro e w5 ⟨rfl, hB5, L5, hL5, hD5⟩
  have HL5 := Lib.hid (show fs L5 = someFS from hL5.trans (by rw [HL4.out]; rfl))
  have HD5 := Lib.hid hD5
  have HB5 := Lib.hid (HB4.out.trans hB5)
  clear hL5 hD5 hB5 HD4 HB4
  go_wp2_with fail
  go_ret
  exact ⟨d, mb, L5, rfl, HL5.out, HD5.out, HB5.out⟩
/-- A row of numbers that came in. -/
def Nums (w : World) (A : Option Addr) (l : List Int) : Prop := ∀ (j : Nat) (h : j < l.length), ∃ ad, A = some ad ∧ w.cell? (ad.add j) = some (.int .i64 l[j])
theorem cell_lt {w : World} {a : Addr} {v : Value} (h : w.cell? a = some v) : a.block < w.heap.size := by
  rcases Nat.lt_or_ge a.block w.heap.size with h1 | h1
  · exact h1
  · exfalso
    unfold World.cell? at h
    rw [Array.getElem?_eq_none h1] at h
    simp at h
theorem add_block (a : Addr) (j : Nat) : (a.add j).block = a.block := by unfold Addr.add; split <;> rfl
theorem torn_calls (w : World) (A : Option Addr) (cap : Nat) (keep : List Int) (hkl : keep.length ≤ 9223372036854775807) (hk : Nums w A keep) :
    Calls Try.prog 28 #[.slice A keep.length cap] w fun e w' => e = .returned (.string (bs (cut keep 0 ⟨[49, 50, 51, 52, 53], 3⟩).b)) ∧ Below w.heap.size w w' := by
  have HK := Lib.hid hk
  clear hk
  go_enter Try.func28, Try.ntmps28
  go_wp2_with fail
  refine (some_calls w).mono ?_
  rintro e w1 ⟨d, mb, L, rfl, hL, hD, hB⟩
  have HL := Lib.hid hL
  have HD := Lib.hid hD
  have HB := Lib.hid hB
  clear hL hD hB
  go_wp2_with fail
  refine (crash_calls w1 HD.out A cap keep hkl (fun j h => by
    obtain ⟨ad, e, hc⟩ := HK.out j h
    refine ⟨ad, e, cell_below hc HB.out, fun r hr => ?_⟩
    have h1 := cell_lt hc
    rw [add_block] at h1
    have h2 := HD.out.flow r hr
    omega)).mono ?_
  rintro e w2 ⟨⟨v, rfl⟩, hB2, L2, hL2, hD2⟩
  have HL2 := Lib.hid (show fs L2 = [([97], cut keep 0 ⟨[49, 50, 51, 52, 53], 3⟩)] from hL2.trans (by rw [HL.out]; rfl))
  have HD2 := Lib.hid hD2
  have HB2 := Lib.hid (HB.out.trans hB2)
  clear hL2 hD2 hB2 HD HB
  go_wp2_with fail
  refine (read_calls w2 HD2.out [97]).mono ?_
  rintro e w3 ⟨rfl, hB3⟩
  have hr : read (fs L2) [97] = ((cut keep 0 ⟨[49, 50, 51, 52, 53], 3⟩).b, 0) := by rw [HL2.out]; rfl
  rw [hr]
  have HD3 := Lib.hid (HD2.out.below hB3)
  have HB3 := Lib.hid (HB2.out.trans (hB3.mono HB2.out.size))
  clear hB3 hr HB2 HD2
  go_wp2_with fail
  refine (synced_calls w3 HD3.out [97]).mono ?_
  rintro e w4 ⟨rfl, hB4⟩
  have hs : synced (fs L2) [97] = (cut keep 0 ⟨[49, 50, 51, 52, 53], 3⟩).s := by rw [HL2.out]; rfl
  rw [hs]
  have hcl := cut_len keep 0 ⟨[49, 50, 51, 52, 53], 3⟩ (by decide)
  have hbz := bs_size (cut keep 0 ⟨[49, 50, 51, 52, 53], 3⟩).b
  have HB4 := Lib.hid (HB3.out.trans (hB4.mono HB3.out.size))
  clear hs hB4
  generalize hC : cut keep 0 ⟨[49, 50, 51, 52, 53], 3⟩ = C at *
  have HC := Lib.hid hC
  rw [hcl] at hbz
  clear hcl hC
  go_wp2_with fail
  go_ret
  exact ⟨by rw [HC.out]; rfl, HB4.out⟩
theorem cut_one : (cut [1] 0 ⟨[49, 50, 51, 52, 53], 3⟩).b = [49, 50, 51, 52] := by decide
theorem cut_none : (cut [] 0 ⟨[49, 50, 51, 52, 53], 3⟩).b = [49, 50, 51] := by decide
theorem works_calls (w : World) : Calls Try.prog 8 #[] w fun e w' => e = .returned (.bool true) ∧ Below w.heap.size w w' := by
  go_enter Try.func8, Try.ntmps8
  go_wp2_with fail
  refine (some_calls w).mono ?_
  rintro e w1 ⟨d, mb, L, rfl, hL, hD, hB⟩
  have HL := Lib.hid hL
  have HD := Lib.hid hD
  have HB := Lib.hid hB
  clear hL hD hB
  go_wp2_with fail
  refine (read_calls w1 HD.out [97]).mono ?_
  rintro e w2 ⟨rfl, hB2⟩
  have hr : read (fs L) [97] = ([49, 50, 51, 52, 53], 0) := by rw [HL.out]; rfl
  rw [hr]
  have HD2 := Lib.hid (HD.out.below hB2)
  have HB2 := Lib.hid (HB.out.trans (hB2.mono HB.out.size))
  clear hB2 hr HB HD
  have hb5 := bs_toList [49, 50, 51, 52, 53]
  go_wp2_with fail
  refine (synced_calls w2 HD2.out [97]).mono ?_
  rintro e w3 ⟨rfl, hB3⟩
  have hs : synced (fs L) [97] = 3 := by rw [HL.out]; rfl
  rw [hs]
  have HD3 := Lib.hid (HD2.out.below hB3)
  have HB3 := Lib.hid (HB2.out.trans (hB3.mono HB2.out.size))
  clear hB3 hs HB2 HD2
  have HB4 := Lib.hid (HB3.out.alloc HB3.out.size (.cells #[.int .i64 1] 3))
  have HD4 := Lib.hid (HD3.out.alloc (.cells #[.int .i64 1] 3))
  have hb4 := bs_toList [49, 50, 51, 52]
  have hb3 := bs_toList [49, 50, 51]
  go_wp2_with fail
  refine (torn_calls (w3.alloc (.cells #[.int .i64 1] 3)) (some ⟨w3.heap.size, 0, none⟩) 1 [1] (by decide) (fun j h => by
    have : j = 0 := by simpa using h
    subst this
    exact ⟨_, rfl, by simp [cell_one_new]⟩)).mono ?_
  rintro e w5 ⟨rfl, hB5⟩
  rw [cut_one]
  have HD5 := Lib.hid (HD4.out.below hB5)
  have HB5 := Lib.hid (HB4.out.trans (hB5.mono HB4.out.size))
  clear hB5 HB4 HD4 HB3 HD3
  go_wp2_with fail
  refine (torn_calls w5 none 0 [] (by decide) (fun j h => by simp at h)).mono ?_
  rintro e w6 ⟨rfl, hB6⟩
  rw [cut_none]
  have HD6 := Lib.hid (HD5.out.below hB6)
  have HB6 := Lib.hid (HB5.out.trans (hB6.mono HB5.out.size))
  clear hB6 HB5 HD5
  go_wp2_with fail
  refine (append_calls w6 HD6.out [98] [120] (by decide)).mono ?_
  rintro e w7 ⟨rfl, hB7, L7, hL7, hD7⟩
  have ha : (append 10 (fs L) [98] [120]).2 = 5 := by rw [HL.out]; rfl
  rw [ha]
  have HB7 := Lib.hid (HB6.out.trans hB7)
  clear ha hB7 hL7 hD7 HB6 HD6
  go_wp2_with fail
  go_ret
  exact ⟨rfl, HB7.out⟩
/-! ### an act (function 12) -/
theorem IsD.base_mono {w : World} {base base' d mb q : Nat} {L : Lf} (h : IsD w base' d mb q L) (hb : base ≤ base') : IsD w base d mb q L where
  top := h.top
  dlow := Nat.le_trans hb h.dlow
  map := h.map
  mlow := Nat.le_trans hb h.mlow
  file := h.file
  flow := fun p hp => Nat.le_trans hb (h.flow p hp)
  apart := h.apart
  ok := h.ok
/-- What an act does. -/
def act (q : Nat) (l : FS) (what : Nat) (n t b : Tx) (keep : List Int) : FS × Nat :=
  match what % 8 with
  | 0 | 1 => append q l n b
  | 2 => create l n
  | 3 => sync l n
  | 4 => rename l n t
  | 5 => remove l n
  | 6 => (crash keep l, 0)
  | _ => (l, 0)
set_option maxHeartbeats 4000000 in
theorem do_calls (w : World) {base d mb q : Nat} {L : Lf} (hD : IsD w base d mb q L) (what : Nat) (hw : what < 256) (n t b : Tx) (hb : b.length ≤ 100000) (A : Option Addr) (cap : Nat) (keep : List Int) (hkl : keep.length ≤ 9223372036854775807) (hk : Nums w A keep)
    (hka : 0 < keep.length → ∀ ad, A = some ad → ∀ r ∈ L, ad.block ≠ r.2.1) :
    Calls Try.prog 12 #[.pointer (some ⟨d, 0, none⟩), .agg #[.int .u8 what, .string (bs n), .string (bs t), .string (bs b), .slice A keep.length cap]] w fun e w' =>
      ∃ d' mb' L', e = .returned (.tuple #[.pointer (some ⟨d', 0, none⟩), .int .i64 ((act q (fs L) what n t b keep).2 : Int)]) ∧ fs L' = (act q (fs L) what n t b keep).1 ∧ IsD w' base d' mb' q L' ∧ Below base w w' := by
  have h8 : what % 8 < 8 := Nat.mod_lt _ (by decide)
  have HK := Lib.hid hk
  have HD := Lib.hid hD
  have HA := Lib.hid hka
  clear hk hD hka
  generalize hm : what % 8 = m at *
  have hmi : Int.tmod (what : Int) 8 = (m : Int) := by rw [← hm]; exact (Int.ofNat_tmod what 8).symm
  have HB0 := Lib.hid ((Below.refl w.heap.size w).alloc (Nat.le_refl _) (.cells #[.int .u8 what, .string (bs n), .string (bs t), .string (bs b), .slice A keep.length cap] 36))
  have HB1 := Lib.hid (HB0.out.mono HD.out.size)
  have HD1 := Lib.hid (HD.out.alloc (.cells #[.int .u8 what, .string (bs n), .string (bs t), .string (bs b), .slice A keep.length cap] 36))
  rcases (show m = 0 ∨ m = 1 ∨ m = 2 ∨ m = 3 ∨ m = 4 ∨ m = 5 ∨ m = 6 ∨ m = 7 by omega) with rfl | rfl | rfl | rfl | rfl | rfl | rfl | rfl
  · have ha := Lib.hid (show act q (fs L) what n t b keep = append q (fs L) n b by unfold act; rw [hm]; rfl)
    have HC := Lib.hid (append_calls (w.alloc (.cells #[.int .u8 what, .string (bs n), .string (bs t), .string (bs b), .slice A keep.length cap] 36)) HD1.out n b hb)
    clear hm
    go_enter Try.func12, Try.ntmps12
    go_wp2_with fail
    refine HC.out.mono ?_
    rintro e w2 ⟨rfl, hB2, L2, hL2, hD2⟩
    have HL2 := Lib.hid hL2
    have HD2 := Lib.hid hD2
    have HB2 := Lib.hid (HB1.out.trans hB2)
    clear hL2 hD2 hB2 HC
    go_wp2_with fail
    go_ret2
    exact ⟨d, mb, L2, by rw [ha.out]; rfl, by rw [ha.out]; exact HL2.out, HD2.out, HB2.out⟩
  · have ha := Lib.hid (show act q (fs L) what n t b keep = append q (fs L) n b by unfold act; rw [hm]; rfl)
    have HC := Lib.hid (append_calls (w.alloc (.cells #[.int .u8 what, .string (bs n), .string (bs t), .string (bs b), .slice A keep.length cap] 36)) HD1.out n b hb)
    clear hm
    go_enter Try.func12, Try.ntmps12
    go_wp2_with fail
    refine HC.out.mono ?_
    rintro e w2 ⟨rfl, hB2, L2, hL2, hD2⟩
    have HL2 := Lib.hid hL2
    have HD2 := Lib.hid hD2
    have HB2 := Lib.hid (HB1.out.trans hB2)
    clear hL2 hD2 hB2 HC
    go_wp2_with fail
    go_ret2
    exact ⟨d, mb, L2, by rw [ha.out]; rfl, by rw [ha.out]; exact HL2.out, HD2.out, HB2.out⟩
  · have ha := Lib.hid (show act q (fs L) what n t b keep = create (fs L) n by unfold act; rw [hm]; rfl)
    have HC := Lib.hid (create_calls (w.alloc (.cells #[.int .u8 what, .string (bs n), .string (bs t), .string (bs b), .slice A keep.length cap] 36)) HD1.out n)
    clear hm
    go_enter Try.func12, Try.ntmps12
    go_wp2_with fail
    refine HC.out.mono ?_
    rintro e w2 ⟨rfl, hB2, L2, hL2, hD2⟩
    have HL2 := Lib.hid hL2
    have HD2 := Lib.hid hD2
    have HB2 := Lib.hid (HB1.out.trans hB2)
    clear hL2 hD2 hB2 HC
    go_wp2_with fail
    go_ret2
    exact ⟨d, mb, L2, by rw [ha.out]; rfl, by rw [ha.out]; exact HL2.out, HD2.out, HB2.out⟩
  · have ha := Lib.hid (show act q (fs L) what n t b keep = sync (fs L) n by unfold act; rw [hm]; rfl)
    have HC := Lib.hid (sync_calls (w.alloc (.cells #[.int .u8 what, .string (bs n), .string (bs t), .string (bs b), .slice A keep.length cap] 36)) HD1.out n)
    clear hm
    go_enter Try.func12, Try.ntmps12
    go_wp2_with fail
    refine HC.out.mono ?_
    rintro e w2 ⟨rfl, hB2, L2, hL2, hD2⟩
    have HL2 := Lib.hid hL2
    have HD2 := Lib.hid hD2
    have HB2 := Lib.hid (HB1.out.trans hB2)
    clear hL2 hD2 hB2 HC
    go_wp2_with fail
    go_ret2
    exact ⟨d, mb, L2, by rw [ha.out]; rfl, by rw [ha.out]; exact HL2.out, HD2.out, HB2.out⟩
  · have ha := Lib.hid (show act q (fs L) what n t b keep = rename (fs L) n t by unfold act; rw [hm]; rfl)
    have HC := Lib.hid (rename_calls (w.alloc (.cells #[.int .u8 what, .string (bs n), .string (bs t), .string (bs b), .slice A keep.length cap] 36)) HD1.out n t)
    clear hm
    go_enter Try.func12, Try.ntmps12
    go_wp2_with fail
    refine HC.out.mono ?_
    rintro e w2 ⟨rfl, hB2, L2, hL2, hD2⟩
    have HL2 := Lib.hid hL2
    have HD2 := Lib.hid hD2
    have HB2 := Lib.hid (HB1.out.trans hB2)
    clear hL2 hD2 hB2 HC
    go_wp2_with fail
    go_ret2
    exact ⟨d, mb, L2, by rw [ha.out]; rfl, by rw [ha.out]; exact HL2.out, HD2.out, HB2.out⟩
  · have ha := Lib.hid (show act q (fs L) what n t b keep = remove (fs L) n by unfold act; rw [hm]; rfl)
    have HC := Lib.hid (remove_calls (w.alloc (.cells #[.int .u8 what, .string (bs n), .string (bs t), .string (bs b), .slice A keep.length cap] 36)) HD1.out n)
    clear hm
    go_enter Try.func12, Try.ntmps12
    go_wp2_with fail
    refine HC.out.mono ?_
    rintro e w2 ⟨rfl, hB2, L2, hL2, hD2⟩
    have HL2 := Lib.hid hL2
    have HD2 := Lib.hid hD2
    have HB2 := Lib.hid (HB1.out.trans hB2)
    clear hL2 hD2 hB2 HC
    go_wp2_with fail
    go_ret2
    exact ⟨d, mb, L2, by rw [ha.out]; rfl, by rw [ha.out]; exact HL2.out, HD2.out, HB2.out⟩
  · have ha := Lib.hid (show act q (fs L) what n t b keep = (crash keep (fs L), 0) by unfold act; rw [hm]; rfl)
    have HC := Lib.hid (crash_calls (w.alloc (.cells #[.int .u8 what, .string (bs n), .string (bs t), .string (bs b), .slice A keep.length cap] 36)) HD1.out A cap keep hkl (fun j h => by
      obtain ⟨ad, e, hc⟩ := HK.out j h
      exact ⟨ad, e, cell_below hc HB0.out, HA.out (by omega) ad e⟩))
    clear hm
    go_enter Try.func12, Try.ntmps12
    go_wp2_with fail
    refine HC.out.mono ?_
    rintro e w2 ⟨⟨v, rfl⟩, hB2, L2, hL2, hD2⟩
    have HL2 := Lib.hid hL2
    have HD2 := Lib.hid hD2
    have HB2 := Lib.hid (HB1.out.trans hB2)
    clear hL2 hD2 hB2 HC
    go_wp2_with fail
    go_ret2
    exact ⟨d, mb, L2, by rw [ha.out]; rfl, by rw [ha.out]; exact HL2.out, HD2.out, HB2.out⟩
  · have ha := Lib.hid (show act q (fs L) what n t b keep = (fs L, 0) by unfold act; rw [hm]; rfl)
    have HC := Lib.hid (copy_calls (w.alloc (.cells #[.int .u8 what, .string (bs n), .string (bs t), .string (bs b), .slice A keep.length cap] 36)) HD1.out)
    clear hm
    go_enter Try.func12, Try.ntmps12
    go_wp2_with fail
    refine HC.out.mono ?_
    rintro e w2 ⟨d2, mb2, L2, rfl, hL2, hD2, hB2⟩
    have HL2 := Lib.hid hL2
    have HD2 := Lib.hid (hD2.base_mono (HD1.out.size))
    have HB2 := Lib.hid (HB1.out.trans (hB2.mono HD1.out.size))
    clear hL2 hD2 hB2 HC
    go_wp2_with fail
    go_ret2
    exact ⟨d2, mb2, L2, by rw [ha.out]; rfl, by rw [ha.out]; exact HL2.out, HD2.out, HB2.out⟩
end Go.Proofs.Ytbffgpfkgmhmhaa.Dw
/- DiskApart, walked (function 3). -/
set_option linter.unusedVariables false
set_option linter.unusedSimpArgs false
namespace Go.Proofs.Ytbffgpfkgmhmhaa.Dw
open Go.RowKit Go.Maps Go.Proofs.YtbffgpfkgmhmhaaW.PrintWords Go.Proofs.YtbffgpfkgmhmhaaW.PrintLast Go.Proofs.YtbffgpfkgmhmhaaW.PrintMore Go.Proofs.Dk Go.Proofs.Ytbffgpfkgmhmhaa.PDiskApart
set_option maxRecDepth 100000
/-! ### the plain law -/
theorem read_same {l l' : FS} {k : Tx} (h : get l' k = get l k) : read l' k = read l k ∧ synced l' k = synced l k := by
  simp only [Dk.read, Dk.synced, h, and_self]
theorem act_apart {q : Nat} {l : FS} (hok : Ok q l) {what : Nat} {n t b : Tx} {keep : List Int} {k : Tx} (h1 : n ≠ k) (h2 : what % 8 = 4 → t ≠ k) (h3 : what % 8 ≠ 6) : get (act q l what n t b keep).1 k = get l k := by
  have hs := hok.sorted
  have hk : k ≠ n := fun e => h1 e.symm
  have hA : get (append q l n b).1 k = get l k := by
    unfold Dk.append
    split
    · split
      · rfl
      · split
        · rfl
        · rw [get_upd, if_neg hk]
    · rfl
  unfold act
  split
  · exact hA
  · exact hA
  · unfold Dk.create
    split
    · split
      · rfl
      · split
        · rfl
        · exact get_put_other hs _ hk
    · rfl
  · unfold Dk.sync
    split
    · split
      · rw [get_upd, if_neg hk]
      · rfl
    · rfl
  · rename_i hm
    have ht : k ≠ t := fun e => h2 hm e.symm
    unfold Dk.rename
    split
    · split
      · rfl
      · rw [get_put_other (sorted_del hs n) _ ht, get_del_other hs hk]
    · rfl
  · unfold Dk.remove
    split
    · split
      · exact get_del_other hs hk
      · rfl
    · rfl
  · rename_i hm
    exact absurd hm h3
  · rfl
/-! ### few -/
theorem few_run (l : List S36) : ∀ (n : Nat) (x3 : Int) (k : Nat), 0 ≤ x3 → (n : Int) = 120 - x3 → 2 * n + 2 ≤ k → ∃ r, hindcastlaw12_few.l0 k l x3 = some r ∧ (r = true → l.length ≤ 100 ∧ ∀ j : Nat, x3 ≤ j → j < l.length → ((rd_T36 l j).f3).size ≤ 3000)
  | n, x3, k, h0, hn, hk => by
    obtain ⟨k1, rfl⟩ : ∃ k1, k = k1 + 2 := ⟨k - 2, by omega⟩
    rw [hindcastlaw12_few.l0]
    by_cases hlt : x3 < (l.length : Int)
    · rw [if_pos hlt, hindcastlaw12_few.j1]
      by_cases h2 : x3 < 120
      · rw [decide_eq_true h2, if_pos rfl, if_pos h0, if_pos hlt]
        split
        · exact ⟨false, rfl, fun h => by cases h⟩
        · rename_i hs3
          split
          · exact ⟨false, rfl, fun h => by cases h⟩
          · split
            · exact ⟨false, rfl, fun h => by cases h⟩
            · obtain ⟨n', rfl⟩ : ∃ n', n = n' + 1 := ⟨n - 1, by omega⟩
              have hw : wrap64 (x3 + 1) = x3 + 1 := by unfold wrap64; omega
              rw [hw]
              obtain ⟨r, e1, e2⟩ := few_run l n' (x3 + 1) k1 (by omega) (by omega) (by omega)
              refine ⟨r, e1, fun h => ⟨(e2 h).1, fun j hj hjl => ?_⟩⟩
              by_cases hx : x3 = (j : Int)
              · rw [← hx]; omega
              · exact (e2 h).2 j (by omega) hjl
      · rw [decide_eq_false h2, if_neg Bool.false_ne_true]
        exact ⟨_, rfl, fun h => by have := of_decide_eq_true h; exact ⟨by omega, fun j hj hjl => by omega⟩⟩
    · rw [if_neg hlt, hindcastlaw12_few.j1, if_neg Bool.false_ne_true]
      exact ⟨_, rfl, fun h => by have := of_decide_eq_true h; exact ⟨by omega, fun j hj hjl => by omega⟩⟩
theorem few_calls (A0 : Option Addr) (c0 : Nat) (l : List S36) (w : World) (hr0 : Kd.C k36 w A0 l.length l) (hc0 : l.length ≤ c0) :
    ∃ r, (r = true → l.length ≤ 100 ∧ ∀ j : Nat, j < l.length → ((rd_T36 l j).f3).size ≤ 3000) ∧ Calls Try.prog 7 #[.slice A0 l.length c0] w fun e w' => e = .returned (.bool r) ∧ ∃ m, w' = w.drewN m := by
  obtain ⟨r, h1, h2⟩ := few_run l 120 0 242 (by omega) (by omega) (by omega)
  refine ⟨r, fun h => ⟨(h2 h).1, fun j hj => (h2 h).2 j (by omega) hj⟩, (hindcastlaw12_few.calls 242 A0 c0 l r w hr0 hc0 h1).mono ?_⟩
  rintro e w' ⟨rfl, hd⟩
  exact ⟨rfl, hd.out⟩
/-! ### an act of those that came in -/
theorem nums_of {w : World} {A : Option Addr} {l : List Int} (h : (Kd.int .i64).C w A l.length l) : Nums w A l := fun j hj => by
  obtain ⟨_, _, h3⟩ := h
  obtain ⟨ad, e, hc⟩ := h3 (by omega)
  obtain ⟨c, hs, hr, hcell⟩ := hc j _ (List.getElem?_eq_getElem hj)
  have h1 : c = [.int .i64 l[j]] := hr
  subst h1
  have h2 := hcell 0 _ rfl
  rw [show j * (Kd.int .i64).sz + 0 = j from by show j * 1 + 0 = j; omega] at h2
  exact ⟨ad, e, h2⟩
theorem act_at {w : World} {A : Option Addr} {n : Nat} {l : List S36} (h : Kd.C k36 w A n l) {i : Nat} (hi : i < n) : ∃ ad A4 c4, A = some ad ∧ ((rd_T36 l i).f4.length ≤ 9223372036854775807 ∧ (0 < (rd_T36 l i).f4.length → ∀ ad', A4 = some ad' → ad'.block < w.heap.size)) ∧ Nums w A4 (rd_T36 l i).f4 ∧ ∀ w', Below w.heap.size w w' →
    w'.cell? (ad.add (i * 5)) = some (.int .u8 (rd_T36 l i).f0) ∧ w'.cell? ⟨(ad.add (i * 5)).block, (ad.add (i * 5)).off + 1, none⟩ = some (.string (rd_T36 l i).f1) ∧ w'.cell? ⟨(ad.add (i * 5)).block, (ad.add (i * 5)).off + 2, none⟩ = some (.string (rd_T36 l i).f2) ∧
    w'.cell? ⟨(ad.add (i * 5)).block, (ad.add (i * 5)).off + 3, none⟩ = some (.string (rd_T36 l i).f3) ∧ w'.cell? ⟨(ad.add (i * 5)).block, (ad.add (i * 5)).off + 4, none⟩ = some (.slice A4 (rd_T36 l i).f4.length c4) := by
  obtain ⟨ad, A4, c4, hA, h0, h1, h2, h3, h4, h5, h6⟩ := at_T36 h i (by omega) (by omega)
  simp only [Int.toNat_natCast] at h0 h1 h2 h3 h4
  refine ⟨ad, A4, c4, hA, ⟨h6.2.1, fun h7 ad' e' => ?_⟩, nums_of h6, fun w' hb => ⟨cell_below h0 hb, cell_below h1 hb, cell_below h2 hb, cell_below h3 hb, cell_below h4 hb⟩⟩
  obtain ⟨ad2, e2, hc2⟩ := nums_of h6 0 h7
  rw [e'] at e2
  cases e2
  have := cell_lt hc2
  rwa [add_block] at this
theorem nums_below {w w' : World} {A : Option Addr} {l : List Int} (h : Nums w A l) (hB : Below w.heap.size w w') : Nums w' A l := fun j hj => by
  obtain ⟨ad, e, hc⟩ := h j hj
  exact ⟨ad, e, cell_below hc hB⟩
theorem row_slice {w : World} {b n : Nat} {v : Value} {xs : List Value} (h : w.ownsRow b 9 1 v n xs) : ∃ A cap, v = .slice A n cap := by
  rcases h.2 with ⟨rfl, rfl⟩ | ⟨g, cap, cur, rfl, _⟩
  · exact ⟨none, 0, rfl⟩
  · exact ⟨_, cap, rfl⟩
set_option maxHeartbeats 8000000 in
theorem apart_calls (w : World) (q0 : Int) (A : Option Addr) (c : Nat) (l : List S36) (nm : Tx) (hC : Kd.C k36 w A l.length l) (hc : l.length ≤ c) (hok : ∀ x ∈ l, 0 ≤ x.f0 ∧ x.f0 < 256) :
    Calls Try.prog 3 #[.int .i64 q0, .slice A l.length c, .string (bs nm)] w fun e w' => e = .returned (.bool true) ∧ Below w.heap.size w w' := by
  by_cases hq : 1 ≤ q0 ∧ q0 ≤ 1048576
  · obtain ⟨q, rfl⟩ : ∃ q : Nat, q0 = (q : Int) := ⟨q0.toNat, by omega⟩
    have HNw := Lib.hid (new_ok w q (by omega))
    have HC0 := Lib.hid hC
    have HOk := Lib.hid hok
    clear hC hok
    go_enter Try.func3, Try.ntmps3
    go_wp2_with fail
    refine HNw.out.mono ?_
    rintro e w1 ⟨d0, mb0, rfl, hD1, hB1⟩
    have HD1 := Lib.hid hD1
    have HB1 := Lib.hid hB1
    clear hD1 hB1 HNw
    obtain ⟨r, hr, hfew⟩ := few_calls A c l w1 (Kd.C_below HC0.out HB1.out) hc
    have HF := Lib.hid hfew
    clear hfew
    go_wp2_with fail
    refine HF.out.mono ?_
    rintro e w2 ⟨rfl, m, rfl⟩
    have HD2 := Lib.hid (HD1.out.drewN m)
    have HB2 := Lib.hid (pw_below_drewN HB1.out m)
    clear HF
    cases r with
    | false =>
      go_wp2_with fail
      refine (works_calls (w1.drewN m)).mono ?_
      rintro e w3 ⟨rfl, hB3⟩
      have HB3 := Lib.hid (HB2.out.trans (hB3.mono HB2.out.size))
      go_wp2_with fail
      go_ret
      exact ⟨rfl, HB3.out⟩
    | true =>
      obtain ⟨hl100, hbz⟩ := hr rfl
      have HZ := Lib.hid hbz
      clear hbz hr
      go_wp2_with fail
      go_loopw [7, 8] (fun t7 t8 wr => ∃ (i d mb : Nat) (L : Lf), i ≤ l.length ∧ t8 = .int .i64 i ∧ t7 = .pointer (some ⟨d, 0, none⟩) ∧ IsD wr w.heap.size d mb q L ∧ Below w.heap.size w wr) (fun _ t8 _ => l.length - (intOf t8).toNat)
      case atStart => exact ⟨0, d0, mb0, [], Nat.zero_le _, rfl, rfl, HD2.out, HB2.out⟩
      case round =>
        obtain ⟨i, d, mb, L, hi, rfl, rfl, hD, hB⟩ := hrel
        have HD := Lib.hid hD
        have HB := Lib.hid hB
        clear hD hB HD1 HB1 HD2 HB2
        by_cases hlt : i < l.length
        · have hltb : decide ((i : Int) < (l.length : Int)) = true := decide_eq_true (by omega)
          have hk0 : 0 ≤ (i : Int) := by omega
          obtain ⟨⟨ab, af, ap⟩, A4, cA, rfl, hcA, hKp, hcells⟩ := act_at HC0.out hlt
          have hx : rd_T36 l i = l[i] := by unfold rd_T36; simp [hlt]
          have hw8 := HOk.out _ (List.getElem_mem hlt)
          have hbz := HZ.out i hlt
          rw [hx] at hcells hKp hcA hbz
          generalize l[i] = x at *
          obtain ⟨what, hwh⟩ : ∃ what : Nat, x.f0 = (what : Int) := ⟨x.f0.toNat, by omega⟩
          have hwhat : what < 256 := by omega
          obtain ⟨n, hn⟩ : ∃ n, x.f1 = bs n := ⟨x.f1.data.toList, (bs_of _).symm⟩
          obtain ⟨tt, htt⟩ : ∃ n, x.f2 = bs n := ⟨x.f2.data.toList, (bs_of _).symm⟩
          obtain ⟨b, hbb⟩ : ∃ n, x.f3 = bs n := ⟨x.f3.data.toList, (bs_of _).symm⟩
          rw [hwh, hn, htt, hbb] at hcells
          rw [hbb, bs_size] at hbz
          generalize x.f4 = keep at *
          have hbl : b.length ≤ 100000 := by omega
          obtain ⟨hkl, hkb⟩ := hcA
          have HK := Lib.hid hKp
          have HA := Lib.hid hcells
          have HAk := Lib.hid hkb
          clear hKp hcells hkb hx hn htt hbb hwh hw8
          have HR1 := Lib.hid (read_calls wr HD.out nm)
          go_wp2_with fail
          refine HR1.out.mono ?_
          rintro e w2 ⟨rfl, hB2⟩
          have HD2 := Lib.hid (HD.out.below hB2)
          have HB2 := Lib.hid (HB.out.trans (hB2.mono HB.out.size))
          clear hB2 HR1 HD HB
          go_wp2_with fail
          refine (synced_calls w2 HD2.out nm).mono ?_
          rintro e w3 ⟨rfl, hB3⟩
          have HD3 := Lib.hid (HD2.out.below hB3)
          have HB3 := Lib.hid (HB2.out.trans (hB3.mono HB2.out.size))
          clear hB3 HD2 HB2
          go_wp2_with fail
          refine (copy_calls w3 HD3.out).mono ?_
          rintro e w4 ⟨cc, mc, Lc, rfl, hLc, hDc, hB4⟩
          have HDc := Lib.hid hDc
          have HLc := Lib.hid hLc
          have HD4 := Lib.hid (HD3.out.below hB4)
          have HB34 := Lib.hid hB4
          have HB4 := Lib.hid (HB3.out.trans (hB4.mono HB3.out.size))
          clear hB4 hDc hLc
          obtain ⟨c0, c1, c2, c3, c4⟩ := HA.out w4 HB4.out
          have HDo := Lib.hid (do_calls w4 HDc.out what hwhat n tt b hbl A4 cA keep hkl (nums_below HK.out HB4.out) (fun hp ad e r hr => by have := HAk.out hp ad e; have := HDc.out.flow r hr; have := HB3.out.size; omega))
          go_wp2_with fail
          refine HDo.out.mono ?_
          rintro e w5 ⟨d5, mb5, L5, rfl, hL5, hD5, hB5⟩
          have HL5 := Lib.hid (show fs L5 = (act q (fs L) what n tt b keep).1 by rw [hL5, HLc.out])
          have HD5 := Lib.hid hD5
          have HD5a := Lib.hid (HD3.out.below (HB34.out.trans hB5))
          have HB5 := Lib.hid (HB4.out.trans (hB5.mono HB3.out.size))
          clear hL5 hD5 hB5 HDo HDc HLc HD4 HB34 HB4 HD3 HB3 c0 c1 c2 c3 c4
          go_wp2_with fail
          refine (read_calls w5 HD5a.out nm).mono ?_
          rintro e w6 ⟨rfl, hB6⟩
          have HD6 := Lib.hid (HD5a.out.below hB6)
          have HO6 := Lib.hid (HD5.out.below hB6)
          have HB6 := Lib.hid (HB5.out.trans (hB6.mono HB5.out.size))
          clear hB6 HD5a HD5 HB5
          go_wp2_with fail
          refine (synced_calls w6 HD6.out nm).mono ?_
          rintro e w7 ⟨rfl, hB7⟩
          have HDb := Lib.hid (HD6.out.below hB7)
          have HD5b := Lib.hid (HO6.out.below hB7)
          have HBb := Lib.hid (HB6.out.trans (hB7.mono HB6.out.size))
          clear hB7 HD6 HO6 HB6
          have hbn := bs_toList n
          have hbnm := bs_toList nm
          have hbt := bs_toList tt
          obtain ⟨c0, c1, c2, c3, c4⟩ := HA.out w7 HBb.out
          have hm8 : what % 8 < 8 := Nat.mod_lt _ (by decide)
          obtain ⟨m8, hm8e⟩ : ∃ m8, what % 8 = m8 := ⟨_, rfl⟩
          have hmi : Int.tmod (what : Int) 8 = (m8 : Int) := by rw [← hm8e]; exact (Int.ofNat_tmod what 8).symm
          have HM := Lib.hid hm8e
          rw [hm8e] at hm8
          clear hm8e
          by_cases hne : n = nm
          · have e1 : (n == nm) = true := by simp [hne]
            clear hne
            go_wp2_with fail
            clear c0 c1 c2 c3 c4 hbn hbt hmi e1
            have HR5 := Lib.hid (read_calls w7 HD5b.out nm)
            go_wp2_with fail
            refine HR5.out.mono ?_
            rintro e w8 ⟨rfl, hB8⟩
            have HD8 := Lib.hid (HDb.out.below hB8)
            have HO8 := Lib.hid (HD5b.out.below hB8)
            have HB8 := Lib.hid (HBb.out.trans (hB8.mono HBb.out.size))
            clear hB8 HR5 HDb HBb
            clear HO8
            obtain ⟨c0, c1, c2, c3, c4⟩ := HA.out w8 HB8.out
            have HDo2 := Lib.hid (do_calls w8 HD8.out what hwhat n tt b hbl A4 cA keep hkl (nums_below HK.out HB8.out) (fun hp ad e r hr => by have := HAk.out hp ad e; have := HD8.out.flow r hr; omega))
            go_wp2_with fail
            refine HDo2.out.mono ?_
            rintro e wa ⟨d', mb', L', rfl, hL', hD', hB'⟩
            have HDa := Lib.hid hD'
            have HBa := Lib.hid (HB8.out.trans hB')
            clear hD' hB' hL' HDo2 HD8 HB8 c0 c1 c2 c3 c4
            have hfew : (fs L').length ≤ 64 := HDa.out.ok.few
            have hfl : decide (64 < ((fs L').length : Int)) = false := decide_eq_false (by omega)
            have hroom : used (fs L') ≤ q := HDa.out.ok.room
            have hu1 : decide ((q : Int) < (used (fs L') : Int)) = false := decide_eq_false (by omega)
            have hu2 : decide ((used (fs L') : Int) < 0) = false := decide_eq_false (by omega)
            go_wp2_with fail
            refine (list_calls wa HDa.out).mono ?_
            rintro e wb ⟨v, rfl, hrow, hBb2⟩
            obtain ⟨Ab, cb, rfl⟩ := row_slice hrow
            have HDc := Lib.hid (HDa.out.below hBb2)
            have HBc := Lib.hid (HBa.out.trans (hBb2.mono HBa.out.size))
            clear hrow hBb2 HDa HBa
            go_wp2_with fail
            refine (used_calls wb HDc.out).mono ?_
            rintro e wc ⟨rfl, hBc⟩
            have HDd := Lib.hid (HDc.out.below hBc)
            have HBd := Lib.hid (HBc.out.trans (hBc.mono HBc.out.size))
            clear hBc HDc HBc
            go_wp2_with fail
            refine (used_calls wc HDd.out).mono ?_
            rintro e wd ⟨rfl, hBd⟩
            have HDe := Lib.hid (HDd.out.below hBd)
            have HBe := Lib.hid (HBd.out.trans (hBd.mono HBd.out.size))
            clear hBd HDd HBd
            go_wp2_with fail
            exact ⟨⟨i + 1, d', mb', L', by omega, by go_num, rfl, HDe.out, HBe.out⟩, by simp [intOf]; omega⟩
          · have e1 : (n == nm) = false := by simp [hne]
            have HNE := Lib.hid hne
            clear hne
            by_cases h4 : m8 = 4
            · subst h4
              by_cases hte : tt = nm
              · have e2 : (tt == nm) = true := by simp [hte]
                clear hte
                go_wp2_with fail
                clear c0 c1 c2 c3 c4 hbn hbt hmi e1 e2
                have HR5 := Lib.hid (read_calls w7 HD5b.out nm)
                go_wp2_with fail
                refine HR5.out.mono ?_
                rintro e w8 ⟨rfl, hB8⟩
                have HD8 := Lib.hid (HDb.out.below hB8)
                have HO8 := Lib.hid (HD5b.out.below hB8)
                have HB8 := Lib.hid (HBb.out.trans (hB8.mono HBb.out.size))
                clear hB8 HR5 HDb HBb
                clear HO8
                obtain ⟨c0, c1, c2, c3, c4⟩ := HA.out w8 HB8.out
                have HDo2 := Lib.hid (do_calls w8 HD8.out what hwhat n tt b hbl A4 cA keep hkl (nums_below HK.out HB8.out) (fun hp ad e r hr => by have := HAk.out hp ad e; have := HD8.out.flow r hr; omega))
                go_wp2_with fail
                refine HDo2.out.mono ?_
                rintro e wa ⟨d', mb', L', rfl, hL', hD', hB'⟩
                have HDa := Lib.hid hD'
                have HBa := Lib.hid (HB8.out.trans hB')
                clear hD' hB' hL' HDo2 HD8 HB8 c0 c1 c2 c3 c4
                have hfew : (fs L').length ≤ 64 := HDa.out.ok.few
                have hfl : decide (64 < ((fs L').length : Int)) = false := decide_eq_false (by omega)
                have hroom : used (fs L') ≤ q := HDa.out.ok.room
                have hu1 : decide ((q : Int) < (used (fs L') : Int)) = false := decide_eq_false (by omega)
                have hu2 : decide ((used (fs L') : Int) < 0) = false := decide_eq_false (by omega)
                go_wp2_with fail
                refine (list_calls wa HDa.out).mono ?_
                rintro e wb ⟨v, rfl, hrow, hBb2⟩
                obtain ⟨Ab, cb, rfl⟩ := row_slice hrow
                have HDc := Lib.hid (HDa.out.below hBb2)
                have HBc := Lib.hid (HBa.out.trans (hBb2.mono HBa.out.size))
                clear hrow hBb2 HDa HBa
                go_wp2_with fail
                refine (used_calls wb HDc.out).mono ?_
                rintro e wc ⟨rfl, hBc⟩
                have HDd := Lib.hid (HDc.out.below hBc)
                have HBd := Lib.hid (HBc.out.trans (hBc.mono HBc.out.size))
                clear hBc HDc HBc
                go_wp2_with fail
                refine (used_calls wc HDd.out).mono ?_
                rintro e wd ⟨rfl, hBd⟩
                have HDe := Lib.hid (HDd.out.below hBd)
                have HBe := Lib.hid (HBd.out.trans (hBd.mono HBd.out.size))
                clear hBd HDd HBd
                go_wp2_with fail
                exact ⟨⟨i + 1, d', mb', L', by omega, by go_num, rfl, HDe.out, HBe.out⟩, by simp [intOf]; omega⟩
              · have e2 : (tt == nm) = false := by simp [hte]
                have HTE := Lib.hid hte
                clear hte
                go_wp2_with fail
                clear c0 c1 c2 c3 c4 hbn hbt hmi e1 e2
                have HR5 := Lib.hid (read_calls w7 HD5b.out nm)
                go_wp2_with fail
                refine HR5.out.mono ?_
                rintro e w8 ⟨rfl, hB8⟩
                have HD8 := Lib.hid (HDb.out.below hB8)
                have HO8 := Lib.hid (HD5b.out.below hB8)
                have HB8 := Lib.hid (HBb.out.trans (hB8.mono HBb.out.size))
                clear hB8 HR5 HDb HBb
                have hsame := read_same (act_apart (b := b) (keep := keep) HD8.out.ok (what := what) (n := n) (t := tt) (k := nm) HNE.out (fun _ => HTE.out) (by rw [HM.out]; decide))
                have hL5n : read (fs L5) nm = read (fs L) nm ∧ synced (fs L5) nm = synced (fs L) nm := by rw [HL5.out]; exact hsame
                rw [hL5n.1]
                have HL5n := Lib.hid hL5n
                clear hsame hL5n
                go_wp2_with fail
                refine (synced_calls w8 HO8.out nm).mono ?_
                rintro e w9 ⟨rfl, hB9⟩
                rw [HL5n.out.2]
                have HD9 := Lib.hid (HD8.out.below hB9)
                have HB9 := Lib.hid (HB8.out.trans (hB9.mono HB8.out.size))
                clear hB9 HD8 HB8 HO8
                obtain ⟨c0, c1, c2, c3, c4⟩ := HA.out w9 HB9.out
                have HDo2 := Lib.hid (do_calls w9 HD9.out what hwhat n tt b hbl A4 cA keep hkl (nums_below HK.out HB9.out) (fun hp ad e r hr => by have := HAk.out hp ad e; have := HD9.out.flow r hr; omega))
                go_wp2_with fail
                refine HDo2.out.mono ?_
                rintro e wa ⟨d', mb', L', rfl, hL', hD', hB'⟩
                have HDa := Lib.hid hD'
                have HBa := Lib.hid (HB9.out.trans hB')
                clear hD' hB' hL' HDo2 HD9 HB9 c0 c1 c2 c3 c4
                have hfew : (fs L').length ≤ 64 := HDa.out.ok.few
                have hfl : decide (64 < ((fs L').length : Int)) = false := decide_eq_false (by omega)
                have hroom : used (fs L') ≤ q := HDa.out.ok.room
                have hu1 : decide ((q : Int) < (used (fs L') : Int)) = false := decide_eq_false (by omega)
                have hu2 : decide ((used (fs L') : Int) < 0) = false := decide_eq_false (by omega)
                go_wp2_with fail
                refine (list_calls wa HDa.out).mono ?_
                rintro e wb ⟨v, rfl, hrow, hBb2⟩
                obtain ⟨Ab, cb, rfl⟩ := row_slice hrow
                have HDc := Lib.hid (HDa.out.below hBb2)
                have HBc := Lib.hid (HBa.out.trans (hBb2.mono HBa.out.size))
                clear hrow hBb2 HDa HBa
                go_wp2_with fail
                refine (used_calls wb HDc.out).mono ?_
                rintro e wc ⟨rfl, hBc⟩
                have HDd := Lib.hid (HDc.out.below hBc)
                have HBd := Lib.hid (HBc.out.trans (hBc.mono HBc.out.size))
                clear hBc HDc HBc
                go_wp2_with fail
                refine (used_calls wc HDd.out).mono ?_
                rintro e wd ⟨rfl, hBd⟩
                have HDe := Lib.hid (HDd.out.below hBd)
                have HBe := Lib.hid (HBd.out.trans (hBd.mono HBd.out.size))
                clear hBd HDd HBd
                go_wp2_with fail
                exact ⟨⟨i + 1, d', mb', L', by omega, by go_num, rfl, HDe.out, HBe.out⟩, by simp [intOf]; omega⟩
            · have e4 : ((m8 : Int) == 4) = false := beq_eq_false_iff_ne.2 (by omega)
              have H4 := Lib.hid h4
              clear h4
              by_cases h6 : m8 = 6
              · subst h6
                go_wp2_with fail
                clear c0 c1 c2 c3 c4 hbn hbt hmi e1 e4
                have HR5 := Lib.hid (read_calls w7 HD5b.out nm)
                go_wp2_with fail
                refine HR5.out.mono ?_
                rintro e w8 ⟨rfl, hB8⟩
                have HD8 := Lib.hid (HDb.out.below hB8)
                have HO8 := Lib.hid (HD5b.out.below hB8)
                have HB8 := Lib.hid (HBb.out.trans (hB8.mono HBb.out.size))
                clear hB8 HR5 HDb HBb
                clear HO8
                obtain ⟨c0, c1, c2, c3, c4⟩ := HA.out w8 HB8.out
                have HDo2 := Lib.hid (do_calls w8 HD8.out what hwhat n tt b hbl A4 cA keep hkl (nums_below HK.out HB8.out) (fun hp ad e r hr => by have := HAk.out hp ad e; have := HD8.out.flow r hr; omega))
                go_wp2_with fail
                refine HDo2.out.mono ?_
                rintro e wa ⟨d', mb', L', rfl, hL', hD', hB'⟩
                have HDa := Lib.hid hD'
                have HBa := Lib.hid (HB8.out.trans hB')
                clear hD' hB' hL' HDo2 HD8 HB8 c0 c1 c2 c3 c4
                have hfew : (fs L').length ≤ 64 := HDa.out.ok.few
                have hfl : decide (64 < ((fs L').length : Int)) = false := decide_eq_false (by omega)
                have hroom : used (fs L') ≤ q := HDa.out.ok.room
                have hu1 : decide ((q : Int) < (used (fs L') : Int)) = false := decide_eq_false (by omega)
                have hu2 : decide ((used (fs L') : Int) < 0) = false := decide_eq_false (by omega)
                go_wp2_with fail
                refine (list_calls wa HDa.out).mono ?_
                rintro e wb ⟨v, rfl, hrow, hBb2⟩
                obtain ⟨Ab, cb, rfl⟩ := row_slice hrow
                have HDc := Lib.hid (HDa.out.below hBb2)
                have HBc := Lib.hid (HBa.out.trans (hBb2.mono HBa.out.size))
                clear hrow hBb2 HDa HBa
                go_wp2_with fail
                refine (used_calls wb HDc.out).mono ?_
                rintro e wc ⟨rfl, hBc⟩
                have HDd := Lib.hid (HDc.out.below hBc)
                have HBd := Lib.hid (HBc.out.trans (hBc.mono HBc.out.size))
                clear hBc HDc HBc
                go_wp2_with fail
                refine (used_calls wc HDd.out).mono ?_
                rintro e wd ⟨rfl, hBd⟩
                have HDe := Lib.hid (HDd.out.below hBd)
                have HBe := Lib.hid (HBd.out.trans (hBd.mono HBd.out.size))
                clear hBd HDd HBd
                go_wp2_with fail
                exact ⟨⟨i + 1, d', mb', L', by omega, by go_num, rfl, HDe.out, HBe.out⟩, by simp [intOf]; omega⟩
              · have e6 : ((m8 : Int) == 6) = false := beq_eq_false_iff_ne.2 (by omega)
                have H6 := Lib.hid h6
                clear h6
                go_wp2_with fail
                clear c0 c1 c2 c3 c4 hbn hbt hmi e1 e4 e6
                have HR5 := Lib.hid (read_calls w7 HD5b.out nm)
                go_wp2_with fail
                refine HR5.out.mono ?_
                rintro e w8 ⟨rfl, hB8⟩
                have HD8 := Lib.hid (HDb.out.below hB8)
                have HO8 := Lib.hid (HD5b.out.below hB8)
                have HB8 := Lib.hid (HBb.out.trans (hB8.mono HBb.out.size))
                clear hB8 HR5 HDb HBb
                have hsame := read_same (act_apart (b := b) (keep := keep) HD8.out.ok (what := what) (n := n) (t := tt) (k := nm) HNE.out (fun e => absurd (HM.out.symm.trans e) H4.out) (fun e => H6.out (HM.out.symm.trans e)))
                have hL5n : read (fs L5) nm = read (fs L) nm ∧ synced (fs L5) nm = synced (fs L) nm := by rw [HL5.out]; exact hsame
                rw [hL5n.1]
                have HL5n := Lib.hid hL5n
                clear hsame hL5n
                go_wp2_with fail
                refine (synced_calls w8 HO8.out nm).mono ?_
                rintro e w9 ⟨rfl, hB9⟩
                rw [HL5n.out.2]
                have HD9 := Lib.hid (HD8.out.below hB9)
                have HB9 := Lib.hid (HB8.out.trans (hB9.mono HB8.out.size))
                clear hB9 HD8 HB8 HO8
                obtain ⟨c0, c1, c2, c3, c4⟩ := HA.out w9 HB9.out
                have HDo2 := Lib.hid (do_calls w9 HD9.out what hwhat n tt b hbl A4 cA keep hkl (nums_below HK.out HB9.out) (fun hp ad e r hr => by have := HAk.out hp ad e; have := HD9.out.flow r hr; omega))
                go_wp2_with fail
                refine HDo2.out.mono ?_
                rintro e wa ⟨d', mb', L', rfl, hL', hD', hB'⟩
                have HDa := Lib.hid hD'
                have HBa := Lib.hid (HB9.out.trans hB')
                clear hD' hB' hL' HDo2 HD9 HB9 c0 c1 c2 c3 c4
                have hfew : (fs L').length ≤ 64 := HDa.out.ok.few
                have hfl : decide (64 < ((fs L').length : Int)) = false := decide_eq_false (by omega)
                have hroom : used (fs L') ≤ q := HDa.out.ok.room
                have hu1 : decide ((q : Int) < (used (fs L') : Int)) = false := decide_eq_false (by omega)
                have hu2 : decide ((used (fs L') : Int) < 0) = false := decide_eq_false (by omega)
                go_wp2_with fail
                refine (list_calls wa HDa.out).mono ?_
                rintro e wb ⟨v, rfl, hrow, hBb2⟩
                obtain ⟨Ab, cb, rfl⟩ := row_slice hrow
                have HDc := Lib.hid (HDa.out.below hBb2)
                have HBc := Lib.hid (HBa.out.trans (hBb2.mono HBa.out.size))
                clear hrow hBb2 HDa HBa
                go_wp2_with fail
                refine (used_calls wb HDc.out).mono ?_
                rintro e wc ⟨rfl, hBc⟩
                have HDd := Lib.hid (HDc.out.below hBc)
                have HBd := Lib.hid (HBc.out.trans (hBc.mono HBc.out.size))
                clear hBc HDc HBc
                go_wp2_with fail
                refine (used_calls wc HDd.out).mono ?_
                rintro e wd ⟨rfl, hBd⟩
                have HDe := Lib.hid (HDd.out.below hBd)
                have HBe := Lib.hid (HBd.out.trans (hBd.mono HBd.out.size))
                clear hBd HDd HBd
                go_wp2_with fail
                exact ⟨⟨i + 1, d', mb', L', by omega, by go_num, rfl, HDe.out, HBe.out⟩, by simp [intOf]; omega⟩
        · have hltb : decide ((i : Int) < (l.length : Int)) = false := decide_eq_false (by omega)
          go_wp2_with fail
          refine (works_calls wr).mono ?_
          rintro e w3 ⟨rfl, hB3⟩
          have HB3 := Lib.hid (HB.out.trans (hB3.mono HB.out.size))
          go_wp2_with fail
          go_ret
          exact ⟨rfl, HB3.out⟩
  · have HNw := Lib.hid (new_nil w q0 hq)
    obtain ⟨r, _, hfew⟩ := few_calls A c l w hC hc
    have HF := Lib.hid hfew
    clear hfew hq hC hok
    go_enter Try.func3, Try.ntmps3
    go_wp2_with fail
    refine HNw.out.mono ?_
    rintro e w1 ⟨rfl, hw1⟩
    obtain rfl := hw1.symm
    clear hw1 HNw
    go_wp2_with fail
    refine HF.out.mono ?_
    rintro e w2 ⟨rfl, m, rfl⟩
    have HB2 := Lib.hid (pw_below_drewN (Below.refl w.heap.size w) m)
    clear HF
    cases r <;> (
      go_wp2_with fail
      refine (works_calls (w.drewN m)).mono ?_
      rintro e w3 ⟨rfl, hB3⟩
      have HB3 := Lib.hid (HB2.out.trans (hB3.mono HB2.out.size))
      go_wp2_with fail
      go_ret
      exact ⟨rfl, HB3.out⟩)
end Go.Proofs.Ytbffgpfkgmhmhaa.Dw
