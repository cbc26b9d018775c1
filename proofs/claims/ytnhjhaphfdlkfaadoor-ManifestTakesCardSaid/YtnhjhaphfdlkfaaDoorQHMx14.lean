-- out of the translation's print, by a program and by hand (wip/tools/hp.py)
import Derived.Test.YtnhjhaphfdlkfaaDoorQHMx0
import Derived.Test.YtnhjhaphfdlkfaaDoorQHMx5
import Derived.Test.YtnhjhaphfdlkfaaDoorQHMx7
import Derived.Test.YtnhjhaphfdlkfaaDoorQHMx11
import Derived.Test.YtnhjhaphfdlkfaaDoorQHMx12
import Derived.Test.YtnhjhaphfdlkfaaDoorQHMx13
namespace Go.Proofs.YtnhjhaphfdlkfaaDoor.HM
open Go.RowKit Go.Proofs.YtnhjhaphfdlkfaaDoorW.PrintWords Go.Proofs.YtnhjhaphfdlkfaaDoorW.PrintLast Go.Proofs.YtnhjhaphfdlkfaaDoorW.PrintMore
attribute [local go_sem] max2_int min2_int max_two min_two max_three min_three max_four min_four   -- for this text's walks alone
set_option linter.unusedVariables false
set_option linter.unusedSimpArgs false
/-! ### hindcastlaw17_ManifestTakes: function 4 -/
def hindcastlaw17_ManifestTakes.f (k : Nat) (a0 : ByteArray) : Option (Bool) := if (a0.size : Int) > 6000 then ((hindcastlaw17_awake.f k).bind fun t339 => (some t339)) else ((manifest_Take.f k a0).bind fun bt340 => ((hindcastref17_Take.f k a0).bind fun bt350 => ((hindcastlaw17_theirs.f k bt340.1 bt340.2.1 bt340.2.2.1 bt340.2.2.2.1).bind fun bt360 => ((hindcastref17_Same.f k bt360.1 bt360.2.1 bt360.2.2.1 bt360.2.2.2 bt350.1 bt350.2.1 bt350.2.2.1 bt350.2.2.2.1).bind fun t368 => (if t368 = true then (if bt340.2.2.2.2 = bt350.2.2.2.2 then ((hindcastlaw17_awake.f k).bind fun t369 => (some t369)) else (none)) else (none))))))
def hindcastlaw17_ManifestTakes.T5 : Bool × List (List Nat × List Nat) := (true, [([], []), ([0], [0]), ([], []), ([1, 2, 1], [1, 2]), ([3, 3], [3]), ([4], [4]), ([4], [4]), ([5, 6, 4], [4, 5, 6]), ([4, 7], [4, 7]), ([8, 4], [8]), ([9, 9], [9]), ([9, 10], [9, 10]), ([11, 10, 0, 1, 2, 3, 4, 5, 6, 7, 8, 9, 10, 11], [11])])
def hindcastlaw17_ManifestTakes.B5 : List Nat := [0, 1, 0, 7, 15, 31, 31, 127, 255, 511, 1023, 2047, 4095]
theorem hindcastlaw17_ManifestTakes.tab5 : rtab .any (opsOf Tryd.f4 5) = hindcastlaw17_ManifestTakes.T5 := by kernel_rfl
theorem hindcastlaw17_ManifestTakes.bits5 : waitsOk hindcastlaw17_ManifestTakes.T5.2 hindcastlaw17_ManifestTakes.B5 = true := by kernel_rfl
set_option maxHeartbeats 8000000 in
set_option maxRecDepth 100000 in
theorem hindcastlaw17_ManifestTakes.calls (k : Nat) (a0 : ByteArray) (r : Bool) (w : World) (h : hindcastlaw17_ManifestTakes.f k a0 = some r) (HL : Aside0 (Go.Proofs.YtnhjhaphfdlkfaaDoor.Crc.Laid w)) :
    Calls Tryd.prog 4 #[.string a0] w fun e w' => e = .returned (.bool r) ∧ Below w.heap.size w w' := by
  have hu26 := Tryd.underlying26
  have hu36 := Tryd.underlying36
  have HB := Aside0.mk (Below.refl w.heap.size w)
  have H : (if (a0.size : Int) > 6000 then ((hindcastlaw17_awake.f k).bind fun t339 => (some t339)) else ((manifest_Take.f k a0).bind fun bt340 => ((hindcastref17_Take.f k a0).bind fun bt350 => ((hindcastlaw17_theirs.f k bt340.1 bt340.2.1 bt340.2.2.1 bt340.2.2.2.1).bind fun bt360 => ((hindcastref17_Same.f k bt360.1 bt360.2.1 bt360.2.2.1 bt360.2.2.2 bt350.1 bt350.2.1 bt350.2.2.1 bt350.2.2.2.1).bind fun t368 => (if t368 = true then (if bt340.2.2.2.2 = bt350.2.2.2.2 then ((hindcastlaw17_awake.f k).bind fun t369 => (some t369)) else (none)) else (none))))))) = some r := h
  clear h
  by_cases c2 : (a0.size : Int) > 6000
  · rw [if_pos c2] at H
    have c2b0 : decide (6000 < (a0.size : Int)) = true := decide_eq_true c2
    have c2b1 : decide (6000 < a0.size) = true := decide_eq_true (by omega)
    clear c2
    replace H := Option.bind_eq_some_iff.mp H
    obtain ⟨t339, A30, H⟩ := H
    replace H : (some t339) = some r := H
    have A3 := Aside0.mk A30
    clear A30
    obtain rfl := Option.some.inj H
    go_enter Tryd.func4, Tryd.ntmps4
    go_wp2_with (first | ((with_reducible refine gate_callee (f := 10) rfl ?_); refine goesL_ (some 10) rfl rfl Tryd.func10 (by kernel_rfl) rfl #[] rfl (by (try simp only [List.map_toArray, List.map_cons, List.map_nil]); first | done | rfl | (simp only [List.length_drop, List.length_take]; rfl)) ?_; (with_reducible refine (hindcastlaw17_awake.calls k  t339 _ A3.out ⟨by first | exact HL.out | ((repeat (first | exact HL.out | apply Go.Proofs.YtnhjhaphfdlkfaaDoor.Crc.laid_drewN | apply Go.Proofs.YtnhjhaphfdlkfaaDoor.Crc.laid_drew)); done) | exact Go.Proofs.YtnhjhaphfdlkfaaDoor.Crc.laid_below HL.out (by repeat (first | (with_reducible first | exact HB.out | apply below_alloc | apply pw_below_drewN | apply below_drew1) | exact HB.out))⟩).mono ?_); rintro e w4 ⟨rfl, hb⟩; refine ⟨_, rfl, ?_⟩; have n0_ := Aside0.mk (below_step (by repeat (first | (with_reducible first | exact HB.out | apply below_alloc | apply pw_below_drewN | apply below_drew1) | exact HB.out)) hb); clear HB; have HB := n0_; clear n0_; (try clear hb); (try clear hb2); (try clear hk); (try clear hi)))
    go_ret
    exact ⟨by first | rfl | (simp [errW_none, errW_some] <;> rfl) | (simp [*, errW_none, errW_some] <;> rfl), by repeat (first | (with_reducible first | exact HB.out | apply below_alloc | apply pw_below_drewN | apply below_drew1) | exact HB.out)⟩
  · rw [if_neg c2] at H
    have c2b0 : decide (6000 < (a0.size : Int)) = false := decide_eq_false c2
    have c2b1 : decide (6000 < a0.size) = false := decide_eq_false (by omega)
    clear c2
    replace H := Option.bind_eq_some_iff.mp H
    obtain ⟨⟨t340, t341, t342, t345, t348⟩, A50, H⟩ := H
    replace H : ((hindcastref17_Take.f k a0).bind fun bt350 => ((hindcastlaw17_theirs.f k t340 t341 t342 t345).bind fun bt360 => ((hindcastref17_Same.f k bt360.1 bt360.2.1 bt360.2.2.1 bt360.2.2.2 bt350.1 bt350.2.1 bt350.2.2.1 bt350.2.2.2.1).bind fun t368 => (if t368 = true then (if t348 = bt350.2.2.2.2 then ((hindcastlaw17_awake.f k).bind fun t369 => (some t369)) else (none)) else (none))))) = some r := H
    have A5 := Aside0.mk A50
    clear A50
    replace H := Option.bind_eq_some_iff.mp H
    obtain ⟨⟨t350, t351, t352, t355, t358⟩, A60, H⟩ := H
    replace H : ((hindcastlaw17_theirs.f k t340 t341 t342 t345).bind fun bt360 => ((hindcastref17_Same.f k bt360.1 bt360.2.1 bt360.2.2.1 bt360.2.2.2 t350 t351 t352 t355).bind fun t368 => (if t368 = true then (if t348 = t358 then ((hindcastlaw17_awake.f k).bind fun t369 => (some t369)) else (none)) else (none)))) = some r := H
    have A6 := Aside0.mk A60
    clear A60
    replace H := Option.bind_eq_some_iff.mp H
    obtain ⟨⟨t360, t361, t362, t365⟩, A70, H⟩ := H
    replace H : ((hindcastref17_Same.f k t360 t361 t362 t365 t350 t351 t352 t355).bind fun t368 => (if t368 = true then (if t348 = t358 then ((hindcastlaw17_awake.f k).bind fun t369 => (some t369)) else (none)) else (none))) = some r := H
    have A7 := Aside0.mk A70
    clear A70
    replace H := Option.bind_eq_some_iff.mp H
    obtain ⟨t368, A80, H⟩ := H
    replace H : (if t368 = true then (if t348 = t358 then ((hindcastlaw17_awake.f k).bind fun t369 => (some t369)) else (none)) else (none)) = some r := H
    have A8 := Aside0.mk A80
    clear A80
    by_cases c9 : t368 = true
    · subst c9
      have H1 : (if t348 = t358 then ((hindcastlaw17_awake.f k).bind fun t369 => (some t369)) else (none)) = some r := by rw [if_pos rfl] at H; exact H
      clear H
      have H := H1
      clear H1
      by_cases c10 : t348 = t358
      · rw [if_pos c10] at H
        have c10b0 : (t348 == t358) = true := beq_iff_eq.mpr c10
        have c10b1 : (t348 != t358) = false := bne_eq_false_iff_eq.mpr c10
        clear c10
        replace H := Option.bind_eq_some_iff.mp H
        obtain ⟨t369, A110, H⟩ := H
        replace H : (some t369) = some r := H
        have A11 := Aside0.mk A110
        clear A110
        obtain rfl := Option.some.inj H
        go_enter Tryd.func4, Tryd.ntmps4
        try go_wp2_with (first | ((with_reducible refine gate_callee (f := 15) rfl ?_); refine goesL_ (some 13) rfl rfl Tryd.func15 (by kernel_rfl) rfl #[.string a0] rfl (by (try simp only [List.map_toArray, List.map_cons, List.map_nil]); first | done | rfl | (simp only [List.length_drop, List.length_take]; rfl)) ?_; (with_reducible refine (manifest_Take.calls k a0 t340 t341 t342 t345 t348 _ A5.out ⟨by first | exact HL.out | ((repeat (first | exact HL.out | apply Go.Proofs.YtnhjhaphfdlkfaaDoor.Crc.laid_drewN | apply Go.Proofs.YtnhjhaphfdlkfaaDoor.Crc.laid_drew)); done) | exact Go.Proofs.YtnhjhaphfdlkfaaDoor.Crc.laid_below HL.out (by repeat (first | (with_reducible first | exact HB.out | apply below_alloc | apply pw_below_drewN | apply below_drew1) | exact HB.out))⟩).mono ?_); rintro e w12 ⟨v343, v346, rfl, ho0, ho1, hb⟩; refine ⟨_, rfl, ?_⟩; have n0_ := Aside0.mk (Kd.R_lower ho0 (below_size (by repeat (first | (with_reducible first | exact HB.out | apply below_alloc | apply pw_below_drewN | apply below_drew1) | exact HB.out)))); have n1_ := Aside0.mk (Kd.R_lower ho1 (below_size (by repeat (first | (with_reducible first | exact HB.out | apply below_alloc | apply pw_below_drewN | apply below_drew1) | exact HB.out)))); have n2_ := Aside0.mk (below_step (by repeat (first | (with_reducible first | exact HB.out | apply below_alloc | apply pw_below_drewN | apply below_drew1) | exact HB.out)) hb); clear HB; have HO344 := n0_; have HO347 := n1_; have HB := n2_; clear n0_ n1_ n2_; (try clear hb); (try clear hb2); (try clear hk); (try clear hi); (try clear ho0); (try clear ho1)) | ((with_reducible refine gate_dst (N := 3) rfl ?_); refine box_event ?hg (N := 3) ?hd (cs := #[.int .u64 0, .int .u8 0, .slice none 0 0, .slice none 0 0]) (t := 26) ?hr ?_; (case hd => rfl); (case hg => rfl); (case hr => first | (go_simp; done) | (go_simp; rfl)); intro gb349 hg w13 hbox hb; have n0_ := Aside0.mk (Kd.R_below (by (with_reducible repeat (first | apply Kd.R_alloc | apply Kd.R_drewN | apply Kd.R_drew)); exact HO344.out) hb); have n1_ := Aside0.mk (Kd.R_below (by (with_reducible repeat (first | apply Kd.R_alloc | apply Kd.R_drewN | apply Kd.R_drew)); exact HO347.out) hb); have n2_ := Aside0.mk (below_step (by repeat (first | (with_reducible first | exact HB.out | apply below_alloc | apply pw_below_drewN | apply below_drew1) | exact HB.out)) hb); have n3_ := Aside0.mk (hbox); have n4_ := Aside0.mk ((by rw [hg]; exact (below_size (by repeat (first | (with_reducible first | exact HB.out | apply below_alloc | apply pw_below_drewN | apply below_drew1) | exact HB.out))) : w.heap.size ≤ gb349)); have n5_ := Aside0.mk ((by rw [hg]; exact (below_size (by repeat (first | (with_reducible first | exact HB.out | apply below_alloc | apply pw_below_drewN | apply below_drew1) | exact HB.out))) : w.heap.size ≤ gb349)); clear HO344; clear HO347; clear HB; have HO344 := n0_; have HO347 := n1_; have HB := n2_; have BK349 := n3_; have GW349 := n4_; have GE349 := n5_; clear n0_ n1_ n2_ n3_ n4_ n5_; clear hb hbox hg; have hcz14_0 : w13.cell? ⟨gb349, 0, none⟩ = some (.int .u64 0) := (blk_cell BK349.out 0).trans rfl; have hcz14_1 : w13.cell? ⟨gb349, 1, none⟩ = some (.int .u8 0) := (blk_cell BK349.out 1).trans rfl; have hcz14_2 : w13.cell? ⟨gb349, 2, none⟩ = some (.slice none 0 0) := (blk_cell BK349.out 2).trans rfl; have hcz14_3 : w13.cell? ⟨gb349, 3, none⟩ = some (.slice none 0 0) := (blk_cell BK349.out 3).trans rfl; have hfz14_0 := blk_frozen BK349.out 0; have hfz14_1 := blk_frozen BK349.out 1; have hfz14_2 := blk_frozen BK349.out 2; have hfz14_3 := blk_frozen BK349.out 3; obtain ⟨Ao15, co15, eo15⟩ := Kd.R_slice HO344.out; subst eo15; obtain ⟨Ao16, co16, eo16⟩ := Kd.R_slice HO347.out; subst eo16) | ((with_reducible refine gate_callee (f := 16) rfl ?_); refine goesL_ (some 18) rfl rfl Tryd.func16 (by kernel_rfl) rfl #[.string a0] rfl (by (try simp only [List.map_toArray, List.map_cons, List.map_nil]); first | done | rfl | (simp only [List.length_drop, List.length_take]; rfl)) ?_; (with_reducible refine (hindcastref17_Take.calls k a0 t350 t351 t352 t355 t358 _ A6.out).mono ?_); rintro e w17 ⟨v353, v356, rfl, ho0, ho1, hb⟩; refine ⟨_, rfl, ?_⟩; have n0_ := Aside0.mk (Kd.R_below (by (with_reducible repeat (first | apply Kd.R_alloc | apply Kd.R_drewN | apply Kd.R_drew)); exact (Kd.R_mono (Kd.R_far (p := ⟨gb349, 3, none⟩) (Kd.R_far (p := ⟨gb349, 2, none⟩) (Kd.R_far (p := ⟨gb349, 1, none⟩) (Kd.R_far (p := ⟨gb349, 0, none⟩) (Kd.R_types HO344.out BK349.out (by decide)) (fun _ hk => hk.2) (.int .u64 t340)) (fun _ hk => hk.2) (.int .u8 t341)) (fun _ hk => hk.2) (.slice Ao15 t342.length co15)) (fun _ hk => hk.2) (.slice Ao16 t345.length co16)) (fun _ h_ => h_.1))) hb); have n1_ := Aside0.mk (Kd.R_elder' (by (with_reducible repeat (first | apply Kd.R_alloc | apply Kd.R_drewN | apply Kd.R_drew)); exact (Kd.R_mono (Kd.R_far (p := ⟨gb349, 3, none⟩) (Kd.R_far (p := ⟨gb349, 2, none⟩) (Kd.R_far (p := ⟨gb349, 1, none⟩) (Kd.R_far (p := ⟨gb349, 0, none⟩) (Kd.R_types HO347.out BK349.out (by decide)) (fun _ hk => hk.2) (.int .u64 t340)) (fun _ hk => hk.2) (.int .u8 t341)) (fun _ hk => hk.2) (.slice Ao15 t342.length co15)) (fun _ hk => hk.2) (.slice Ao16 t345.length co16)) (fun _ h_ => h_.1))) (Kd.R_base ho1) hb); have n2_ := Aside0.mk (Kd.R_lower ho0 (below_size (by repeat (first | (with_reducible first | exact HB.out | apply below_alloc | apply pw_below_drewN | apply below_drew1 | refine below_set ?_ GE349.out) | exact HB.out)))); have n3_ := Aside0.mk (Kd.R_lower (Kd.R_new' ho1 (Kd.R_lt (by (with_reducible repeat (first | apply Kd.R_alloc | apply Kd.R_drewN | apply Kd.R_drew)); exact (Kd.R_mono (Kd.R_far (p := ⟨gb349, 3, none⟩) (Kd.R_far (p := ⟨gb349, 2, none⟩) (Kd.R_far (p := ⟨gb349, 1, none⟩) (Kd.R_far (p := ⟨gb349, 0, none⟩) (Kd.R_types HO347.out BK349.out (by decide)) (fun _ hk => hk.2) (.int .u64 t340)) (fun _ hk => hk.2) (.int .u8 t341)) (fun _ hk => hk.2) (.slice Ao15 t342.length co15)) (fun _ hk => hk.2) (.slice Ao16 t345.length co16)) (fun _ h_ => h_.1))))) (below_size (by repeat (first | (with_reducible first | exact HB.out | apply below_alloc | apply pw_below_drewN | apply below_drew1 | refine below_set ?_ GE349.out) | exact HB.out)))); have n4_ := Aside0.mk (blk_below (g := gb349) (o := .cells #[.int .u64 t340, .int .u8 t341, .slice Ao15 t342.length co15, .slice Ao16 t345.length co16] 26 (0, 0)) (by (with_reducible repeat (first | refine blk_drewN ?_ _ | refine blk_drew ?_ | refine blk_alloc ?_ _)); refine blk_put (cs := #[.int .u64 t340, .int .u8 t341, .slice Ao15 t342.length co15, .slice none 0 0]) ?_ 3 _ rfl; (with_reducible repeat (first | refine blk_drewN ?_ _ | refine blk_drew ?_ | refine blk_alloc ?_ _)); refine blk_put (cs := #[.int .u64 t340, .int .u8 t341, .slice none 0 0, .slice none 0 0]) ?_ 2 _ rfl; (with_reducible repeat (first | refine blk_drewN ?_ _ | refine blk_drew ?_ | refine blk_alloc ?_ _)); refine blk_put (cs := #[.int .u64 t340, .int .u8 0, .slice none 0 0, .slice none 0 0]) ?_ 1 _ rfl; (with_reducible repeat (first | refine blk_drewN ?_ _ | refine blk_drew ?_ | refine blk_alloc ?_ _)); refine blk_put (cs := #[.int .u64 0, .int .u8 0, .slice none 0 0, .slice none 0 0]) ?_ 0 _ rfl; (with_reducible repeat (first | refine blk_drewN ?_ _ | refine blk_drew ?_ | refine blk_alloc ?_ _)); exact BK349.out) hb); have n5_ := Aside0.mk (below_step (by repeat (first | (with_reducible first | exact HB.out | apply below_alloc | apply pw_below_drewN | apply below_drew1 | refine below_set ?_ GE349.out) | exact HB.out)) hb); clear HO344; clear HO347; clear BK349; clear HB; have HO344 := n0_; have HO347 := n1_; have HO354 := n2_; have HO357 := n3_; have BK349 := n4_; have HB := n5_; clear n0_ n1_ n2_ n3_ n4_ n5_; (try clear hb); (try clear hb2); (try clear hk); (try clear hi); (try clear ho0); (try clear ho1)) | ((with_reducible refine gate_dst (N := 5) rfl ?_); refine box_event ?hg (N := 5) ?hd (cs := #[.int .u64 0, .int .u8 0, .slice none 0 0, .slice none 0 0]) (t := 36) ?hr ?_; (case hd => rfl); (case hg => rfl); (case hr => first | (go_simp; done) | (go_simp; rfl)); intro gb359 hg w18 hbox hb; have n0_ := Aside0.mk (Kd.R_below (by (with_reducible repeat (first | apply Kd.R_alloc | apply Kd.R_drewN | apply Kd.R_drew)); exact HO344.out) hb); have n1_ := Aside0.mk (Kd.R_below (by (with_reducible repeat (first | apply Kd.R_alloc | apply Kd.R_drewN | apply Kd.R_drew)); exact HO347.out) hb); have n2_ := Aside0.mk (Kd.R_below (by (with_reducible repeat (first | apply Kd.R_alloc | apply Kd.R_drewN | apply Kd.R_drew)); exact HO354.out) hb); have n3_ := Aside0.mk (Kd.R_below (by (with_reducible repeat (first | apply Kd.R_alloc | apply Kd.R_drewN | apply Kd.R_drew)); exact HO357.out) hb); have n4_ := Aside0.mk (blk_below (g := gb349) (o := .cells #[.int .u64 t340, .int .u8 t341, .slice Ao15 t342.length co15, .slice Ao16 t345.length co16] 26 (0, 0)) (by (with_reducible repeat (first | refine blk_drewN ?_ _ | refine blk_drew ?_ | refine blk_alloc ?_ _)); exact BK349.out) hb); have n5_ := Aside0.mk (below_step (by repeat (first | (with_reducible first | exact HB.out | apply below_alloc | apply pw_below_drewN | apply below_drew1 | refine below_set ?_ GE349.out) | exact HB.out)) hb); have n6_ := Aside0.mk (hbox); have n7_ := Aside0.mk ((by rw [hg]; exact (below_size (by repeat (first | (with_reducible first | exact HB.out | apply below_alloc | apply pw_below_drewN | apply below_drew1 | refine below_set ?_ GE349.out) | exact HB.out))) : w.heap.size ≤ gb359)); have n8_ := Aside0.mk ((by rw [hg]; exact (below_size (by repeat (first | (with_reducible first | exact HB.out | apply below_alloc | apply pw_below_drewN | apply below_drew1 | refine below_set ?_ GE349.out) | exact HB.out))) : w.heap.size ≤ gb359)); have n9_ := Aside0.mk ((by rw [hg]; exact Nat.ne_of_lt (blk_lt (g := gb349) (o := .cells #[.int .u64 t340, .int .u8 t341, .slice Ao15 t342.length co15, .slice Ao16 t345.length co16] 26 (0, 0)) (by (with_reducible repeat (first | refine blk_drewN ?_ _ | refine blk_drew ?_ | refine blk_alloc ?_ _)); exact BK349.out)) : gb349 ≠ gb359)); have n10_ := Aside0.mk ((by rw [hg]; exact Nat.ne_of_gt (blk_lt (g := gb349) (o := .cells #[.int .u64 t340, .int .u8 t341, .slice Ao15 t342.length co15, .slice Ao16 t345.length co16] 26 (0, 0)) (by (with_reducible repeat (first | refine blk_drewN ?_ _ | refine blk_drew ?_ | refine blk_alloc ?_ _)); exact BK349.out)) : gb359 ≠ gb349)); clear HO344; clear HO347; clear HO354; clear HO357; clear BK349; clear HB; have HO344 := n0_; have HO347 := n1_; have HO354 := n2_; have HO357 := n3_; have BK349 := n4_; have HB := n5_; have BK359 := n6_; have GW359 := n7_; have GE359 := n8_; have NB349_359 := n9_; have NB359_349 := n10_; clear n0_ n1_ n2_ n3_ n4_ n5_ n6_ n7_ n8_ n9_ n10_; clear hb hbox hg; have hnb19 := NB359_349.out; have hnc19 := NB349_359.out; have hcz20_0 : w18.cell? ⟨gb359, 0, none⟩ = some (.int .u64 0) := (blk_cell BK359.out 0).trans rfl; have hcz20_1 : w18.cell? ⟨gb359, 1, none⟩ = some (.int .u8 0) := (blk_cell BK359.out 1).trans rfl; have hcz20_2 : w18.cell? ⟨gb359, 2, none⟩ = some (.slice none 0 0) := (blk_cell BK359.out 2).trans rfl; have hcz20_3 : w18.cell? ⟨gb359, 3, none⟩ = some (.slice none 0 0) := (blk_cell BK359.out 3).trans rfl; have hfz20_0 := blk_frozen BK359.out 0; have hfz20_1 := blk_frozen BK359.out 1; have hfz20_2 := blk_frozen BK359.out 2; have hfz20_3 := blk_frozen BK359.out 3; obtain ⟨Ao21, co21, eo21⟩ := Kd.R_slice HO354.out; subst eo21; obtain ⟨Ao22, co22, eo22⟩ := Kd.R_slice HO357.out; subst eo22))
        have n0_ : Aside0 (Kd.R k78 78 ((((w18.setCell ⟨gb359, 0, none⟩ (.int .u64 t350)).setCell ⟨gb359, 1, none⟩ (.int .u8 t351)).setCell ⟨gb359, 2, none⟩ (.slice Ao21 t352.length co21)).setCell ⟨gb359, 3, none⟩ (.slice Ao22 t355.length co22)) w.heap.size (fun _ => True) (.slice Ao15 t342.length co15) t342) := ⟨by (with_reducible repeat (first | apply Kd.R_alloc | apply Kd.R_drewN | apply Kd.R_drew)); exact Kd.R_mono (Kd.R_far (p := ⟨gb359, 3, none⟩) (Kd.R_far (p := ⟨gb359, 2, none⟩) (Kd.R_far (p := ⟨gb359, 1, none⟩) (Kd.R_far (p := ⟨gb359, 0, none⟩) (Kd.R_types HO344.out BK359.out (by decide)) (fun _ hk => hk.2) (.int .u64 t350)) (fun _ hk => hk.2) (.int .u8 t351)) (fun _ hk => hk.2) (.slice Ao21 t352.length co21)) (fun _ hk => hk.2) (.slice Ao22 t355.length co22)) (fun _ hk => trivial)⟩
        have n1_ : Aside0 (Kd.R (Kd.int .u64) 22 ((((w18.setCell ⟨gb359, 0, none⟩ (.int .u64 t350)).setCell ⟨gb359, 1, none⟩ (.int .u8 t351)).setCell ⟨gb359, 2, none⟩ (.slice Ao21 t352.length co21)).setCell ⟨gb359, 3, none⟩ (.slice Ao22 t355.length co22)) w.heap.size (fun k_ => some k_ ≠ (.slice Ao22 t355.length co22 : Value).ownBlock) (.slice Ao16 t345.length co16) t345) := ⟨by (with_reducible repeat (first | apply Kd.R_alloc | apply Kd.R_drewN | apply Kd.R_drew)); exact Kd.R_mono (Kd.R_far (p := ⟨gb359, 3, none⟩) (Kd.R_far (p := ⟨gb359, 2, none⟩) (Kd.R_far (p := ⟨gb359, 1, none⟩) (Kd.R_far (p := ⟨gb359, 0, none⟩) (Kd.R_types HO347.out BK359.out (by decide)) (fun _ hk => hk.2) (.int .u64 t350)) (fun _ hk => hk.2) (.int .u8 t351)) (fun _ hk => hk.2) (.slice Ao21 t352.length co21)) (fun _ hk => hk.2) (.slice Ao22 t355.length co22)) (fun _ hk => hk.1.2)⟩
        have n2_ : Aside0 (Kd.R k84 84 ((((w18.setCell ⟨gb359, 0, none⟩ (.int .u64 t350)).setCell ⟨gb359, 1, none⟩ (.int .u8 t351)).setCell ⟨gb359, 2, none⟩ (.slice Ao21 t352.length co21)).setCell ⟨gb359, 3, none⟩ (.slice Ao22 t355.length co22)) w.heap.size (fun _ => True) (.slice Ao21 t352.length co21) t352) := ⟨by (with_reducible repeat (first | apply Kd.R_alloc | apply Kd.R_drewN | apply Kd.R_drew)); exact Kd.R_mono (Kd.R_far (p := ⟨gb359, 3, none⟩) (Kd.R_far (p := ⟨gb359, 2, none⟩) (Kd.R_far (p := ⟨gb359, 1, none⟩) (Kd.R_far (p := ⟨gb359, 0, none⟩) (Kd.R_types HO354.out BK359.out (by decide)) (fun _ hk => hk.2) (.int .u64 t350)) (fun _ hk => hk.2) (.int .u8 t351)) (fun _ hk => hk.2) (.slice Ao21 t352.length co21)) (fun _ hk => hk.2) (.slice Ao22 t355.length co22)) (fun _ hk => trivial)⟩
        have n3_ : Aside0 (Kd.R (Kd.int .u64) 22 ((((w18.setCell ⟨gb359, 0, none⟩ (.int .u64 t350)).setCell ⟨gb359, 1, none⟩ (.int .u8 t351)).setCell ⟨gb359, 2, none⟩ (.slice Ao21 t352.length co21)).setCell ⟨gb359, 3, none⟩ (.slice Ao22 t355.length co22)) w.heap.size (fun k_ => some k_ ≠ (.slice Ao16 t345.length co16 : Value).ownBlock) (.slice Ao22 t355.length co22) t355) := ⟨by (with_reducible repeat (first | apply Kd.R_alloc | apply Kd.R_drewN | apply Kd.R_drew)); exact Kd.R_mono (Kd.R_far (p := ⟨gb359, 3, none⟩) (Kd.R_far (p := ⟨gb359, 2, none⟩) (Kd.R_far (p := ⟨gb359, 1, none⟩) (Kd.R_far (p := ⟨gb359, 0, none⟩) (Kd.R_types HO357.out BK359.out (by decide)) (fun _ hk => hk.2) (.int .u64 t350)) (fun _ hk => hk.2) (.int .u8 t351)) (fun _ hk => hk.2) (.slice Ao21 t352.length co21)) (fun _ hk => hk.2) (.slice Ao22 t355.length co22)) (fun _ hk => hk.1.2)⟩
        have n4_ : Aside0 (((((w18.setCell ⟨gb359, 0, none⟩ (.int .u64 t350)).setCell ⟨gb359, 1, none⟩ (.int .u8 t351)).setCell ⟨gb359, 2, none⟩ (.slice Ao21 t352.length co21)).setCell ⟨gb359, 3, none⟩ (.slice Ao22 t355.length co22)).heap[gb349]? = some (.cells #[.int .u64 t340, .int .u8 t341, .slice Ao15 t342.length co15, .slice Ao16 t345.length co16] 26 (0, 0))) := ⟨by (with_reducible repeat (first | refine blk_drewN ?_ _ | refine blk_drew ?_ | refine blk_alloc ?_ _)); refine blk_far ?_ NB349_359.out _; (with_reducible repeat (first | refine blk_drewN ?_ _ | refine blk_drew ?_ | refine blk_alloc ?_ _)); refine blk_far ?_ NB349_359.out _; (with_reducible repeat (first | refine blk_drewN ?_ _ | refine blk_drew ?_ | refine blk_alloc ?_ _)); refine blk_far ?_ NB349_359.out _; (with_reducible repeat (first | refine blk_drewN ?_ _ | refine blk_drew ?_ | refine blk_alloc ?_ _)); refine blk_far ?_ NB349_359.out _; (with_reducible repeat (first | refine blk_drewN ?_ _ | refine blk_drew ?_ | refine blk_alloc ?_ _)); exact BK349.out⟩
        have n5_ : Aside0 (((((w18.setCell ⟨gb359, 0, none⟩ (.int .u64 t350)).setCell ⟨gb359, 1, none⟩ (.int .u8 t351)).setCell ⟨gb359, 2, none⟩ (.slice Ao21 t352.length co21)).setCell ⟨gb359, 3, none⟩ (.slice Ao22 t355.length co22)).heap[gb359]? = some (.cells #[.int .u64 t350, .int .u8 t351, .slice Ao21 t352.length co21, .slice Ao22 t355.length co22] 36 (0, 0))) := ⟨by (with_reducible repeat (first | refine blk_drewN ?_ _ | refine blk_drew ?_ | refine blk_alloc ?_ _)); refine blk_put (cs := #[.int .u64 t350, .int .u8 t351, .slice Ao21 t352.length co21, .slice none 0 0]) ?_ 3 _ rfl; (with_reducible repeat (first | refine blk_drewN ?_ _ | refine blk_drew ?_ | refine blk_alloc ?_ _)); refine blk_put (cs := #[.int .u64 t350, .int .u8 t351, .slice none 0 0, .slice none 0 0]) ?_ 2 _ rfl; (with_reducible repeat (first | refine blk_drewN ?_ _ | refine blk_drew ?_ | refine blk_alloc ?_ _)); refine blk_put (cs := #[.int .u64 t350, .int .u8 0, .slice none 0 0, .slice none 0 0]) ?_ 1 _ rfl; (with_reducible repeat (first | refine blk_drewN ?_ _ | refine blk_drew ?_ | refine blk_alloc ?_ _)); refine blk_put (cs := #[.int .u64 0, .int .u8 0, .slice none 0 0, .slice none 0 0]) ?_ 0 _ rfl; (with_reducible repeat (first | refine blk_drewN ?_ _ | refine blk_drew ?_ | refine blk_alloc ?_ _)); exact BK359.out⟩
        have n6_ : Aside0 (Below w.heap.size w ((((w18.setCell ⟨gb359, 0, none⟩ (.int .u64 t350)).setCell ⟨gb359, 1, none⟩ (.int .u8 t351)).setCell ⟨gb359, 2, none⟩ (.slice Ao21 t352.length co21)).setCell ⟨gb359, 3, none⟩ (.slice Ao22 t355.length co22))) := ⟨by repeat (first | (with_reducible first | exact HB.out | apply below_alloc | apply pw_below_drewN | apply below_drew1 | refine below_set ?_ GE349.out | refine below_set ?_ GE359.out) | exact HB.out)⟩
        (try clear HO344)
        (try clear HO347)
        (try clear HO354)
        (try clear HO357)
        (try clear BK349)
        (try clear BK359)
        (try clear HB)
        generalize ((((w18.setCell ⟨gb359, 0, none⟩ (.int .u64 t350)).setCell ⟨gb359, 1, none⟩ (.int .u8 t351)).setCell ⟨gb359, 2, none⟩ (.slice Ao21 t352.length co21)).setCell ⟨gb359, 3, none⟩ (.slice Ao22 t355.length co22)) = w23 at n0_ n1_ n2_ n3_ n4_ n5_ n6_ ⊢
        have HO344 := n0_
        have HO347 := n1_
        have HO354 := n2_
        have HO357 := n3_
        have BK349 := n4_
        have BK359 := n5_
        have HB := n6_
        clear n0_ n1_ n2_ n3_ n4_ n5_ n6_
        have n0_ := Aside0.mk (Kd.R_drew HO344.out)
        have n1_ := Aside0.mk (Kd.R_drew HO347.out)
        have n2_ := Aside0.mk (Kd.R_drew HO354.out)
        have n3_ := Aside0.mk (Kd.R_drew HO357.out)
        have n4_ := Aside0.mk (blk_drew BK349.out)
        have n5_ := Aside0.mk (blk_drew BK359.out)
        have n6_ := Aside0.mk (below_drew1 HB.out)
        clear HO344
        clear HO347
        clear HO354
        clear HO357
        clear BK349
        clear BK359
        clear HB
        have HO344 := n0_
        have HO347 := n1_
        have HO354 := n2_
        have HO357 := n3_
        have BK349 := n4_
        have BK359 := n5_
        have HB := n6_
        clear n0_ n1_ n2_ n3_ n4_ n5_ n6_
        refine start_ (n := 13) (S := fun w' => w'.cell? ⟨gb349, 0, none⟩ = some (.int .u64 t340) ∧ w'.cell? ⟨gb349, 1, none⟩ = some (.int .u8 t341) ∧ w'.cell? ⟨gb349, 2, none⟩ = some (.slice Ao15 t342.length co15) ∧ w'.cell? ⟨gb349, 3, none⟩ = some (.slice Ao16 t345.length co16) ∧ w'.cell? ⟨gb359, 0, none⟩ = some (.int .u64 t350) ∧ w'.cell? ⟨gb359, 1, none⟩ = some (.int .u8 t351) ∧ w'.cell? ⟨gb359, 2, none⟩ = some (.slice Ao21 t352.length co21) ∧ w'.cell? ⟨gb359, 3, none⟩ = some (.slice Ao22 t355.length co22)) (ds := []) #[false, false, false, false, false, false, false, false, false, false, false, false, false] (by kernel_rfl) rfl rfl ⟨(blk_cell BK349.out 0).trans rfl, (blk_cell BK349.out 1).trans rfl, (blk_cell BK349.out 2).trans rfl, (blk_cell BK349.out 3).trans rfl, (blk_cell BK359.out 0).trans rfl, (blk_cell BK359.out 1).trans rfl, (blk_cell BK359.out 2).trans rfl, (blk_cell BK359.out 3).trans rfl⟩ (fun hHeld => ?_); refine with_tabW hindcastlaw17_ManifestTakes.tab5 hindcastlaw17_ManifestTakes.bits5 (fun HT_ HW_ => ?_)
        generalize w23.drew = w24 at HO344 HO347 HO354 HO357 BK349 BK359 HB hHeld ⊢
        refine take_ (i := 0) (N := some 21) (v := ?_) (a' := ?_) #[true, false, false, false, false, false, false, false, false, false, false, false, false] rfl rfl (take_ofW HT_.out HW_.out (by kernel_rfl)) (fun _ _ _ h => h) (Or.inl ⟨by rfl, ?_⟩) hHeld ?_ ?_
        rotate_left
        · rintro w' ⟨s0, s1, s2, s3, s4, s5, s6, s7⟩
          go_simp
          with_reducible rfl
        rotate_left
        · simp only [Act.put, List.setIfInBounds_toArray, List.set_cons_zero, List.set_cons_succ, i64_w, i32_w]
          rfl
        refine take_ (i := 2) (N := some 23) (v := ?_) (a' := ?_) #[true, false, true, false, false, false, false, false, false, false, false, false, false] rfl rfl (take_ofW HT_.out HW_.out (by kernel_rfl)) (fun _ _ _ h => h) (Or.inl ⟨by rfl, ?_⟩) hHeld ?_ ?_
        rotate_left
        · rintro w' ⟨s0, s1, s2, s3, s4, s5, s6, s7⟩
          go_simp
          with_reducible rfl
        rotate_left
        · simp only [Act.put, List.setIfInBounds_toArray, List.set_cons_zero, List.set_cons_succ, i64_w, i32_w]
          rfl
        refine one_ (i := 1) (N := some 22) #[true, true, true, false, false, false, false, false, false, false, false, false, false] rfl rfl (one_of HT_.out (by kernel_rfl)) (by decide) (fun K hK => ?_)
        refine goes_ Tryd.func13 (by kernel_rfl) rfl #[.agg #[.int .u64 t340, .int .u8 t341, .slice Ao15 t342.length co15, .slice Ao16 t345.length co16]] (by rfl) rfl rfl (by (try simp only [List.map_toArray, List.map_cons, List.map_nil]); first | done | rfl | (simp only [List.length_drop, List.length_take]; rfl)) ?_
        with_reducible refine (hindcastlaw17_theirs.calls k t340 t341 _ _ t342 _ _ t345 t360 t361 t362 t365 _ ?side1 ?side2 ?side3 ?side4 A7.out).mono ?_
        (case side1 => repeat (first | exact (Kd.R_reads' HO344.out).2.2 | (with_reducible refine Kd.C_alloc ?_ _) | (with_reducible refine Kd.C_drewN ?_ _) | (with_reducible refine Kd.C_drew ?_)))
        (case side2 => exact (Kd.R_reads' HO344.out).2.1)
        (case side3 => repeat (first | exact (Kd.R_reads' HO347.out).2.2 | (with_reducible refine Kd.C_alloc ?_ _) | (with_reducible refine Kd.C_drewN ?_ _) | (with_reducible refine Kd.C_drew ?_)))
        (case side4 => exact (Kd.R_reads' HO347.out).2.1)
        rintro e w25 ⟨v363, v366, rfl, ho0, ho1, hb⟩
        refine ⟨_, rfl, ?_⟩
        have n0_ := Aside0.mk (Kd.R_below (by (with_reducible repeat (first | apply Kd.R_alloc | apply Kd.R_drewN | apply Kd.R_drew)); exact HO344.out) hb)
        have n1_ := Aside0.mk (Kd.R_elder' (by (with_reducible repeat (first | apply Kd.R_alloc | apply Kd.R_drewN | apply Kd.R_drew)); exact HO347.out) (Kd.R_base ho1) hb)
        have n2_ := Aside0.mk (Kd.R_elder' (by (with_reducible repeat (first | apply Kd.R_alloc | apply Kd.R_drewN | apply Kd.R_drew)); exact HO354.out) (Kd.R_base ho0) hb)
        have n3_ := Aside0.mk (Kd.R_elder' (by (with_reducible repeat (first | apply Kd.R_alloc | apply Kd.R_drewN | apply Kd.R_drew)); exact HO357.out) (Kd.R_base ho1) hb)
        have n4_ := Aside0.mk (Kd.R_lower (Kd.R_new' ho0 (Kd.R_lt (by (with_reducible repeat (first | apply Kd.R_alloc | apply Kd.R_drewN | apply Kd.R_drew)); exact HO354.out))) (below_size (by repeat (first | (with_reducible first | exact HB.out | apply below_alloc | apply pw_below_drewN | apply below_drew1 | refine below_set ?_ GE349.out | refine below_set ?_ GE359.out) | exact HB.out))))
        have n5_ := Aside0.mk (Kd.R_lower (Kd.R_new' (Kd.R_new' ho1 (Kd.R_lt (by (with_reducible repeat (first | apply Kd.R_alloc | apply Kd.R_drewN | apply Kd.R_drew)); exact HO347.out))) (Kd.R_lt (by (with_reducible repeat (first | apply Kd.R_alloc | apply Kd.R_drewN | apply Kd.R_drew)); exact HO357.out))) (below_size (by repeat (first | (with_reducible first | exact HB.out | apply below_alloc | apply pw_below_drewN | apply below_drew1 | refine below_set ?_ GE349.out | refine below_set ?_ GE359.out) | exact HB.out))))
        have n6_ := Aside0.mk (blk_below (g := gb349) (o := .cells #[.int .u64 t340, .int .u8 t341, .slice Ao15 t342.length co15, .slice Ao16 t345.length co16] 26 (0, 0)) (by (with_reducible repeat (first | refine blk_drewN ?_ _ | refine blk_drew ?_ | refine blk_alloc ?_ _)); exact BK349.out) hb)
        have n7_ := Aside0.mk (blk_below (g := gb359) (o := .cells #[.int .u64 t350, .int .u8 t351, .slice Ao21 t352.length co21, .slice Ao22 t355.length co22] 36 (0, 0)) (by (with_reducible repeat (first | refine blk_drewN ?_ _ | refine blk_drew ?_ | refine blk_alloc ?_ _)); exact BK359.out) hb)
        have n8_ := Aside0.mk (below_step (by repeat (first | (with_reducible first | exact HB.out | apply below_alloc | apply pw_below_drewN | apply below_drew1 | refine below_set ?_ GE349.out | refine below_set ?_ GE359.out) | exact HB.out)) hb)
        clear HO344
        clear HO347
        clear HO354
        clear HO357
        clear BK349
        clear BK359
        clear HB
        have HO344 := n0_
        have HO347 := n1_
        have HO354 := n2_
        have HO357 := n3_
        have HO364 := n4_
        have HO367 := n5_
        have BK349 := n6_
        have BK359 := n7_
        have HB := n8_
        clear n0_ n1_ n2_ n3_ n4_ n5_ n6_ n7_ n8_
        (try clear hb)
        (try clear hb2)
        (try clear hk)
        (try clear hi)
        (try clear ho0)
        (try clear ho1)
        obtain ⟨Ao26, co26, eo26⟩ := Kd.R_slice HO364.out
        (first | subst eo26 | (injection eo26 with f1_ f2_ f3_; have f4_ := f1_.symm; have f5_ := f3_.symm; clear f1_ f2_ f3_; subst f4_; subst f5_))
        obtain ⟨Ao27, co27, eo27⟩ := Kd.R_slice HO367.out
        (first | subst eo27 | (injection eo27 with f1_ f2_ f3_; have f4_ := f1_.symm; have f5_ := f3_.symm; clear f1_ f2_ f3_; subst f4_; subst f5_))
        refine hK.out _ _ ⟨(blk_cell BK349.out 0).trans rfl, (blk_cell BK349.out 1).trans rfl, (blk_cell BK349.out 2).trans rfl, (blk_cell BK349.out 3).trans rfl, (blk_cell BK359.out 0).trans rfl, (blk_cell BK359.out 1).trans rfl, (blk_cell BK359.out 2).trans rfl, (blk_cell BK359.out 3).trans rfl⟩ (fun hHeld => ?_)
        clear hK K
        refine norm_ (a' := ?_) ?_ ?_
        rotate_left
        · show Act.put _ (some 22) _ = _
          simp only [Act.put, List.setIfInBounds_toArray, List.set_cons_zero, List.set_cons_succ, i64_w, i32_w]
          rfl
        refine one_ (i := 3) (N := some 24) #[true, true, true, true, false, false, false, false, false, false, false, false, false] rfl rfl (one_of HT_.out (by kernel_rfl)) (by decide) (fun K hK => ?_)
        refine goes_ Tryd.func17 (by kernel_rfl) rfl #[.agg #[.int .u64 t360, .int .u8 t361, .slice Ao26 t362.length co26, .slice Ao27 t365.length co27], .agg #[.int .u64 t350, .int .u8 t351, .slice Ao21 t352.length co21, .slice Ao22 t355.length co22]] (by rfl) rfl rfl (by (try simp only [List.map_toArray, List.map_cons, List.map_nil]); first | done | rfl | (simp only [List.length_drop, List.length_take]; rfl)) ?_
        with_reducible refine (hindcastref17_Same.calls k t360 t361 _ _ t362 _ _ t365 t350 t351 _ _ t352 _ _ t355 true _ ?side1 ?side2 ?side3 ?side4 ?side5 ?side6 ?side7 ?side8 A8.out).mono ?_
        (case side1 => repeat (first | exact (Kd.R_reads' HO364.out).2.2 | (with_reducible refine Kd.C_alloc ?_ _) | (with_reducible refine Kd.C_drewN ?_ _) | (with_reducible refine Kd.C_drew ?_)))
        (case side2 => exact (Kd.R_reads' HO364.out).2.1)
        (case side3 => repeat (first | exact (Kd.R_reads' HO367.out).2.2 | (with_reducible refine Kd.C_alloc ?_ _) | (with_reducible refine Kd.C_drewN ?_ _) | (with_reducible refine Kd.C_drew ?_)))
        (case side4 => exact (Kd.R_reads' HO367.out).2.1)
        (case side5 => repeat (first | exact (Kd.R_reads' HO354.out).2.2 | (with_reducible refine Kd.C_alloc ?_ _) | (with_reducible refine Kd.C_drewN ?_ _) | (with_reducible refine Kd.C_drew ?_)))
        (case side6 => exact (Kd.R_reads' HO354.out).2.1)
        (case side7 => repeat (first | exact (Kd.R_reads' HO357.out).2.2 | (with_reducible refine Kd.C_alloc ?_ _) | (with_reducible refine Kd.C_drewN ?_ _) | (with_reducible refine Kd.C_drew ?_)))
        (case side8 => exact (Kd.R_reads' HO357.out).2.1)
        rintro e w28 ⟨rfl, hb⟩
        refine ⟨_, rfl, ?_⟩
        have n0_ := Aside0.mk (Kd.R_below (by (with_reducible repeat (first | apply Kd.R_alloc | apply Kd.R_drewN | apply Kd.R_drew)); exact HO344.out) hb)
        have n1_ := Aside0.mk (Kd.R_below (by (with_reducible repeat (first | apply Kd.R_alloc | apply Kd.R_drewN | apply Kd.R_drew)); exact HO347.out) hb)
        have n2_ := Aside0.mk (Kd.R_below (by (with_reducible repeat (first | apply Kd.R_alloc | apply Kd.R_drewN | apply Kd.R_drew)); exact HO354.out) hb)
        have n3_ := Aside0.mk (Kd.R_below (by (with_reducible repeat (first | apply Kd.R_alloc | apply Kd.R_drewN | apply Kd.R_drew)); exact HO357.out) hb)
        have n4_ := Aside0.mk (Kd.R_below (by (with_reducible repeat (first | apply Kd.R_alloc | apply Kd.R_drewN | apply Kd.R_drew)); exact HO364.out) hb)
        have n5_ := Aside0.mk (Kd.R_below (by (with_reducible repeat (first | apply Kd.R_alloc | apply Kd.R_drewN | apply Kd.R_drew)); exact HO367.out) hb)
        have n6_ := Aside0.mk (blk_below (g := gb349) (o := .cells #[.int .u64 t340, .int .u8 t341, .slice Ao15 t342.length co15, .slice Ao16 t345.length co16] 26 (0, 0)) (by (with_reducible repeat (first | refine blk_drewN ?_ _ | refine blk_drew ?_ | refine blk_alloc ?_ _)); exact BK349.out) hb)
        have n7_ := Aside0.mk (blk_below (g := gb359) (o := .cells #[.int .u64 t350, .int .u8 t351, .slice Ao21 t352.length co21, .slice Ao22 t355.length co22] 36 (0, 0)) (by (with_reducible repeat (first | refine blk_drewN ?_ _ | refine blk_drew ?_ | refine blk_alloc ?_ _)); exact BK359.out) hb)
        have n8_ := Aside0.mk (below_step (by repeat (first | (with_reducible first | exact HB.out | apply below_alloc | apply pw_below_drewN | apply below_drew1 | refine below_set ?_ GE349.out | refine below_set ?_ GE359.out) | exact HB.out)) hb)
        clear HO344
        clear HO347
        clear HO354
        clear HO357
        clear HO364
        clear HO367
        clear BK349
        clear BK359
        clear HB
        have HO344 := n0_
        have HO347 := n1_
        have HO354 := n2_
        have HO357 := n3_
        have HO364 := n4_
        have HO367 := n5_
        have BK349 := n6_
        have BK359 := n7_
        have HB := n8_
        clear n0_ n1_ n2_ n3_ n4_ n5_ n6_ n7_ n8_
        (try clear hb)
        (try clear hb2)
        (try clear hk)
        (try clear hi)
        refine hK.out _ _ ⟨(blk_cell BK349.out 0).trans rfl, (blk_cell BK349.out 1).trans rfl, (blk_cell BK349.out 2).trans rfl, (blk_cell BK349.out 3).trans rfl, (blk_cell BK359.out 0).trans rfl, (blk_cell BK359.out 1).trans rfl, (blk_cell BK359.out 2).trans rfl, (blk_cell BK359.out 3).trans rfl⟩ (fun hHeld => ?_)
        clear hK K
        refine norm_ (a' := ?_) ?_ ?_
        rotate_left
        · show Act.put _ (some 24) _ = _
          simp only [Act.put, List.setIfInBounds_toArray, List.set_cons_zero, List.set_cons_succ, i64_w, i32_w]
          rfl
        refine pure_ (i := 4) (N := some 25) (v := ?_) (a' := ?_) #[true, true, true, true, true, false, false, false, false, false, false, false, false] rfl rfl (any_of HT_.out (by kernel_rfl)) (fun _ _ _ h => h) (Or.inl ⟨by rfl, ?_⟩) ?_ ?_
        rotate_left
        · intro w'
          go_simp
          with_reducible rfl
        rotate_left
        · simp only [Act.put, List.setIfInBounds_toArray, List.set_cons_zero, List.set_cons_succ, i64_w, i32_w]
          rfl
        refine pure_ (i := 5) (N := some 26) (v := ?_) (a' := ?_) #[true, true, true, true, true, true, false, false, false, false, false, false, false] rfl rfl (any_of HT_.out (by kernel_rfl)) (fun _ _ _ h => h) (Or.inl ⟨by rfl, ?_⟩) ?_ ?_
        rotate_left
        · intro w'
          go_simp
          with_reducible rfl
        rotate_left
        · simp only [Act.put, List.setIfInBounds_toArray, List.set_cons_zero, List.set_cons_succ, i64_w, i32_w]
          rfl
        refine pure_ (i := 6) (N := some 27) (v := ?_) (a' := ?_) #[true, true, true, true, true, true, true, false, false, false, false, false, false] rfl rfl (any_of HT_.out (by kernel_rfl)) (fun _ _ _ h => h) (Or.inl ⟨by rfl, ?_⟩) ?_ ?_
        rotate_left
        · intro w'
          go_simp
          with_reducible rfl
        rotate_left
        · simp only [Act.put, List.setIfInBounds_toArray, List.set_cons_zero, List.set_cons_succ, i64_w, i32_w]
          rfl
        refine pure_ (i := 7) (N := some 28) (v := ?_) (a' := ?_) #[true, true, true, true, true, true, true, true, false, false, false, false, false] rfl rfl (any_of HT_.out (by kernel_rfl)) (fun _ _ _ h => h) (Or.inl ⟨by rfl, ?_⟩) ?_ ?_
        rotate_left
        · intro w'
          go_simp
          with_reducible rfl
        rotate_left
        · simp only [Act.put, List.setIfInBounds_toArray, List.set_cons_zero, List.set_cons_succ, i64_w, i32_w]
          rfl
        refine pure_ (i := 8) (N := some 29) (v := ?_) (a' := ?_) #[true, true, true, true, true, true, true, true, true, false, false, false, false] rfl rfl (any_of HT_.out (by kernel_rfl)) (fun _ _ _ h => h) (Or.inl ⟨by rfl, ?_⟩) ?_ ?_
        rotate_left
        · intro w'
          go_simp
          with_reducible rfl
        rotate_left
        · simp only [Act.put, List.setIfInBounds_toArray, List.set_cons_zero, List.set_cons_succ, i64_w, i32_w]
          rfl
        refine pure_ (i := 9) (N := some 30) (v := ?_) (a' := ?_) #[true, true, true, true, true, true, true, true, true, true, false, false, false] rfl rfl (any_of HT_.out (by kernel_rfl)) (fun _ _ _ h => h) (Or.inl ⟨by rfl, ?_⟩) ?_ ?_
        rotate_left
        · intro w'
          go_simp
          with_reducible rfl
        rotate_left
        · simp only [Act.put, List.setIfInBounds_toArray, List.set_cons_zero, List.set_cons_succ, i64_w, i32_w]
          rfl
        refine one_ (i := 10) (N := some 31) #[true, true, true, true, true, true, true, true, true, true, true, false, false] rfl rfl (one_of HT_.out (by kernel_rfl)) (by decide) (fun K hK => ?_)
        refine goes_ Tryd.func10 (by kernel_rfl) rfl #[] (by rfl) rfl rfl (by (try simp only [List.map_toArray, List.map_cons, List.map_nil]); first | done | rfl | (simp only [List.length_drop, List.length_take]; rfl)) ?_
        with_reducible refine (hindcastlaw17_awake.calls k  t369 _ A11.out ⟨by first | exact HL.out | ((repeat (first | exact HL.out | apply Go.Proofs.YtnhjhaphfdlkfaaDoor.Crc.laid_drewN | apply Go.Proofs.YtnhjhaphfdlkfaaDoor.Crc.laid_drew)); done) | exact Go.Proofs.YtnhjhaphfdlkfaaDoor.Crc.laid_below HL.out (by repeat (first | (with_reducible first | exact HB.out | apply below_alloc | apply pw_below_drewN | apply below_drew1) | exact HB.out))⟩).mono ?_
        rintro e w29 ⟨rfl, hb⟩
        refine ⟨_, rfl, ?_⟩
        have n0_ := Aside0.mk (Kd.R_below (by (with_reducible repeat (first | apply Kd.R_alloc | apply Kd.R_drewN | apply Kd.R_drew)); exact HO344.out) hb)
        have n1_ := Aside0.mk (Kd.R_below (by (with_reducible repeat (first | apply Kd.R_alloc | apply Kd.R_drewN | apply Kd.R_drew)); exact HO347.out) hb)
        have n2_ := Aside0.mk (Kd.R_below (by (with_reducible repeat (first | apply Kd.R_alloc | apply Kd.R_drewN | apply Kd.R_drew)); exact HO354.out) hb)
        have n3_ := Aside0.mk (Kd.R_below (by (with_reducible repeat (first | apply Kd.R_alloc | apply Kd.R_drewN | apply Kd.R_drew)); exact HO357.out) hb)
        have n4_ := Aside0.mk (Kd.R_below (by (with_reducible repeat (first | apply Kd.R_alloc | apply Kd.R_drewN | apply Kd.R_drew)); exact HO364.out) hb)
        have n5_ := Aside0.mk (Kd.R_below (by (with_reducible repeat (first | apply Kd.R_alloc | apply Kd.R_drewN | apply Kd.R_drew)); exact HO367.out) hb)
        have n6_ := Aside0.mk (blk_below (g := gb349) (o := .cells #[.int .u64 t340, .int .u8 t341, .slice Ao15 t342.length co15, .slice Ao16 t345.length co16] 26 (0, 0)) (by (with_reducible repeat (first | refine blk_drewN ?_ _ | refine blk_drew ?_ | refine blk_alloc ?_ _)); exact BK349.out) hb)
        have n7_ := Aside0.mk (blk_below (g := gb359) (o := .cells #[.int .u64 t350, .int .u8 t351, .slice Ao21 t352.length co21, .slice Ao22 t355.length co22] 36 (0, 0)) (by (with_reducible repeat (first | refine blk_drewN ?_ _ | refine blk_drew ?_ | refine blk_alloc ?_ _)); exact BK359.out) hb)
        have n8_ := Aside0.mk (below_step (by repeat (first | (with_reducible first | exact HB.out | apply below_alloc | apply pw_below_drewN | apply below_drew1 | refine below_set ?_ GE349.out | refine below_set ?_ GE359.out) | exact HB.out)) hb)
        clear HO344
        clear HO347
        clear HO354
        clear HO357
        clear HO364
        clear HO367
        clear BK349
        clear BK359
        clear HB
        have HO344 := n0_
        have HO347 := n1_
        have HO354 := n2_
        have HO357 := n3_
        have HO364 := n4_
        have HO367 := n5_
        have BK349 := n6_
        have BK359 := n7_
        have HB := n8_
        clear n0_ n1_ n2_ n3_ n4_ n5_ n6_ n7_ n8_
        (try clear hb)
        (try clear hb2)
        (try clear hk)
        (try clear hi)
        refine hK.out _ _ ⟨(blk_cell BK349.out 0).trans rfl, (blk_cell BK349.out 1).trans rfl, (blk_cell BK349.out 2).trans rfl, (blk_cell BK349.out 3).trans rfl, (blk_cell BK359.out 0).trans rfl, (blk_cell BK359.out 1).trans rfl, (blk_cell BK359.out 2).trans rfl, (blk_cell BK359.out 3).trans rfl⟩ (fun hHeld => ?_)
        clear hK K
        refine norm_ (a' := ?_) ?_ ?_
        rotate_left
        · show Act.put _ (some 31) _ = _
          simp only [Act.put, List.setIfInBounds_toArray, List.set_cons_zero, List.set_cons_succ, i64_w, i32_w]
          rfl
        refine pure_ (i := 11) (N := some 32) (v := ?_) (a' := ?_) #[true, true, true, true, true, true, true, true, true, true, true, true, false] rfl rfl (any_of HT_.out (by kernel_rfl)) (fun _ _ _ h => h) (Or.inl ⟨by rfl, ?_⟩) ?_ ?_
        rotate_left
        · intro w'
          go_simp
          with_reducible rfl
        rotate_left
        · simp only [Act.put, List.setIfInBounds_toArray, List.set_cons_zero, List.set_cons_succ, i64_w, i32_w]
          rfl
        refine pure_ (i := 12) (N := some 2) (v := ?_) (a' := ?_) #[true, true, true, true, true, true, true, true, true, true, true, true, true] rfl rfl (any_of HT_.out (by kernel_rfl)) (fun _ _ _ h => h) (Or.inl ⟨by rfl, ?_⟩) ?_ ?_
        rotate_left
        · intro w'
          go_simp
          with_reducible rfl
        rotate_left
        · simp only [Act.put, List.setIfInBounds_toArray, List.set_cons_zero, List.set_cons_succ, i64_w, i32_w]
          rfl
        refine done_ (done_of HT_.out (by kernel_rfl)) ?_
        try go_wp2
        go_ret
        exact ⟨by first | rfl | (simp [errW_none, errW_some] <;> rfl) | (simp [*, errW_none, errW_some] <;> rfl), by repeat (first | (with_reducible first | exact HB.out | apply below_alloc | apply pw_below_drewN | apply below_drew1 | refine below_set ?_ GE349.out | refine below_set ?_ GE359.out) | exact HB.out)⟩
      · rw [if_neg c10] at H
        exact absurd H (by simp)
    · replace c9 := Bool.eq_false_iff.mpr c9
      subst c9
      have H1 : (none) = some r := by rw [if_neg (show ¬ (false = true) by decide)] at H; exact H
      exact absurd H1 (by simp)
end Go.Proofs.YtnhjhaphfdlkfaaDoor.HM
