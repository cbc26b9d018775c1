/- Scan, walked. -/
import Derived.Test.YtnhjhaphfdlkfaaDoorVMc
set_option linter.unusedVariables false
set_option linter.unusedSimpArgs false
namespace Go.Proofs.YtnhjhaphfdlkfaaDoor.Sg
open Go.RowKit Go.Proofs.YtnhjhaphfdlkfaaDoor.HF Go.Proofs.YtnhjhaphfdlkfaaDoor.SB Go.Proofs.YtnhjhaphfdlkfaaDoorW.PrintWords Go.Proofs.YtnhjhaphfdlkfaaDoorW.PrintLast Go.Proofs.YtnhjhaphfdlkfaaDoorW.PrintMore
def world5 (w : World) (l : List UInt8) (n : Int) : World := ((((w.alloc (.cells #[.string (bs l)] 9)).alloc (.cells Rec.zero.cells 51)).alloc (.cells #[.int .i64 0] 3)).alloc (.cells (scCells n Sc.start (.slice none 0 0) (.slice none 0 0)) 102)).alloc (.cells #[.pointer (some ⟨w.heap.size + 1 + 1 + 1, 0, none⟩)] 100)
theorem start_st (w : World) (l : List UInt8) (n : Int) : StB w (world5 w l n) n l w.heap.size (w.heap.size + 1) (w.heap.size + 1 + 1) (w.heap.size + 1 + 1 + 1) (w.heap.size + 1 + 1 + 1 + 1) Sc.start 0 (fun k => k = w.heap.size + 1 + 1 + 1) := by
  have e1 : (w.alloc (.cells #[.string (bs l)] 9)).heap.size = w.heap.size + 1 := by simp
  have e2 : ((w.alloc (.cells #[.string (bs l)] 9)).alloc (.cells Rec.zero.cells 51)).heap.size = w.heap.size + 1 + 1 := by simp
  have e3 : (((w.alloc (.cells #[.string (bs l)] 9)).alloc (.cells Rec.zero.cells 51)).alloc (.cells #[.int .i64 0] 3)).heap.size = w.heap.size + 1 + 1 + 1 := by simp
  have e4 : ((((w.alloc (.cells #[.string (bs l)] 9)).alloc (.cells Rec.zero.cells 51)).alloc (.cells #[.int .i64 0] 3)).alloc (.cells (scCells n Sc.start (.slice none 0 0) (.slice none 0 0)) 102)).heap.size = w.heap.size + 1 + 1 + 1 + 1 := by simp
  have b0 := heap_alloc_new w (.cells #[.string (bs l)] 9)
  have b1 := heap_alloc_new (w.alloc (.cells #[.string (bs l)] 9)) (.cells Rec.zero.cells 51)
  have b2 := heap_alloc_new ((w.alloc (.cells #[.string (bs l)] 9)).alloc (.cells Rec.zero.cells 51)) (.cells #[.int .i64 0] 3)
  have b3 := heap_alloc_new (((w.alloc (.cells #[.string (bs l)] 9)).alloc (.cells Rec.zero.cells 51)).alloc (.cells #[.int .i64 0] 3)) (.cells (scCells n Sc.start (.slice none 0 0) (.slice none 0 0)) 102)
  have b4 := heap_alloc_new ((((w.alloc (.cells #[.string (bs l)] 9)).alloc (.cells Rec.zero.cells 51)).alloc (.cells #[.int .i64 0] 3)).alloc (.cells (scCells n Sc.start (.slice none 0 0) (.slice none 0 0)) 102)) (.cells #[.pointer (some ⟨w.heap.size + 1 + 1 + 1, 0, none⟩)] 100)
  rw [e1] at b1
  rw [e2] at b2
  rw [e3] at b3
  rw [e4] at b4
  refine ⟨blk_alloc (blk_alloc (blk_alloc (blk_alloc b0 _) _) _) _, blk_alloc (blk_alloc (blk_alloc b1 _) _) _, blk_alloc (blk_alloc b2 _) _, b4,
    ⟨.slice none 0 0, .slice none 0 0, blk_alloc b3 _, ⟨rfl, Or.inl ⟨rfl, none, rfl, by simp⟩⟩, ⟨rfl, Or.inl ⟨rfl, none, rfl, by simp⟩⟩, rfl, fun k e => by simp [Value.ownBlock] at e, fun k e => by simp [Value.ownBlock] at e, ?_⟩, by omega, by omega, by omega, by omega, by omega, ?_⟩
  · rintro k rfl
    exact ⟨by omega, blk_lt (blk_alloc b3 _)⟩
  · exact ((((((Below.refl w.heap.size w).alloc (by omega) _).alloc (by rw [e1]; omega) _).alloc (by rw [e2]; omega) _).alloc (by rw [e3]; omega) _).alloc (by rw [e4]; omega) _)
def world4 (W : World) (a b p : Nat) : World := (((W.alloc (.cells #[.string ⟨#[]⟩] 9)).alloc (.cells #[.int .i64 0] 3)).alloc (.cells Rec.zero.cells 51)).alloc (.cells (rowF a b W.heap.size (W.heap.size + 1) p (W.heap.size + 1 + 1)) 91)
theorem isc_lt {W : World} {base g : Nat} {n : Int} {x : Sc} {F : Nat → Prop} (h : IsSc W base g n x F) : ∀ k, F k → k < W.heap.size := by
  obtain ⟨_, _, _, _, _, _, _, _, h⟩ := h
  exact fun k hf => (h k hf).2
theorem round_calls (w W : World) (n : Int) (l : List UInt8) (a h b g p : Nat) (x : Sc) (gd : Nat) (F : Nat → Prop) (H : StB w W n l a h b g p x gd F) (hl : l.length ≤ 100000) (HL : Lay w) (hx : x.Good) (hfew : x.l.length ≤ gd) (hgd : gd ≤ l.length) :
    Calls Tryd.prog 47 #[.slice (some ⟨W.heap.size + 1 + 1 + 1, 0, none⟩) 3 3] (world4 W a b p) fun e W' => e = .returned (.int .i64 (step1 n l x gd).2) ∧ ∃ F', StB w W' n l a h b g p (step1 n l x gd).1 gd F' ∧ ((step1 n l x gd).2 = 0 → W'.heap[W.heap.size + 1]? = some (.cells #[.int .i64 (nextN (l.drop gd)).2.1] 3 (0, 0))) := by
  have e1 : (W.alloc (.cells #[.string ⟨#[]⟩] 9)).heap.size = W.heap.size + 1 := by simp
  have e2 : ((W.alloc (.cells #[.string ⟨#[]⟩] 9)).alloc (.cells #[.int .i64 0] 3)).heap.size = W.heap.size + 1 + 1 := by simp
  have e3 : (((W.alloc (.cells #[.string ⟨#[]⟩] 9)).alloc (.cells #[.int .i64 0] 3)).alloc (.cells Rec.zero.cells 51)).heap.size = W.heap.size + 1 + 1 + 1 := by simp
  have b0 := heap_alloc_new W (.cells #[.string ⟨#[]⟩] 9)
  have b1 := heap_alloc_new (W.alloc (.cells #[.string ⟨#[]⟩] 9)) (.cells #[.int .i64 0] 3)
  have b2 := heap_alloc_new ((W.alloc (.cells #[.string ⟨#[]⟩] 9)).alloc (.cells #[.int .i64 0] 3)) (.cells Rec.zero.cells 51)
  have b3 := heap_alloc_new (((W.alloc (.cells #[.string ⟨#[]⟩] 9)).alloc (.cells #[.int .i64 0] 3)).alloc (.cells Rec.zero.cells 51)) (.cells (rowF a b W.heap.size (W.heap.size + 1) p (W.heap.size + 1 + 1)) 91)
  rw [e1] at b1
  rw [e2] at b2
  rw [e3] at b3
  have hwW := H.below.size
  have hlt := isc_lt H.sc
  have la := blk_lt H.cs
  have lh := blk_lt H.ch
  have lb := blk_lt H.cb
  refine three_calls w _ n l a h b g p x gd F W.heap.size (W.heap.size + 1) (W.heap.size + 1 + 1) (W.heap.size + 1 + 1 + 1) _ _ Rec.zero ⟨?_, blk_alloc (blk_alloc (blk_alloc b0 _) _) _, blk_alloc (blk_alloc b1 _) _, blk_alloc b2 _, b3⟩ hl HL hx hfew hgd (by omega) (by omega) (by omega)
    (fun hf => by have := hlt _ hf; omega) (fun hf => by have := hlt _ hf; omega) (fun hf => by have := hlt _ hf; omega) (fun hf => by have := hlt _ hf; omega) ⟨by omega, by omega, by omega⟩
  exact stb_free H (((((Kept.refl W (fun _ => False)).alloc _).alloc _).alloc _).alloc _) ((((H.below.alloc hwW _).alloc (by rw [e1]; omega) _).alloc (by rw [e2]; omega) _).alloc (by rw [e3]; omega) _)
set_option maxHeartbeats 1000000 in
set_option maxRecDepth 100000 in
theorem scan_calls (w : World) (n : Int) (l : List UInt8) (hl : l.length ≤ 100000) (HL : Lay w) :
    Calls Tryd.prog 20 #[.string (bs l), .int .u64 n] w fun e w' => ∃ vl, e = .returned (.tuple #[(scanG n l).1.head.val, vl, .int .i64 (scanG n l).2.1, .int .i64 (scanG n l).2.2]) ∧ QRow w' w.heap.size 51 9 vl (scanG n l).1.l.length (flatR (scanG n l).1.l) ∧ Below w.heap.size w w' := by
  have hmf := mf
  have HLy := Lib.hid HL
  have HS0 := Lib.hid (start_st w l n)
  clear HL
  go_enter Tryd.func20, Tryd.ntmps20
  go_wp2_with fail
  generalize hw5 : ((((w.alloc (.cells #[.string (bs l)] 9)).alloc _).alloc _).alloc _).alloc _ = w5
  rw [show world5 w l n = w5 from hw5] at HS0
  clear hw5
  generalize w.heap.size + 1 + 1 + 1 + 1 = p at HS0 ⊢
  generalize w.heap.size + 1 + 1 + 1 = g at HS0 ⊢
  generalize w.heap.size + 1 + 1 = b at HS0 ⊢
  generalize w.heap.size + 1 = h at HS0 ⊢
  generalize ha : w.heap.size = a at HS0 ⊢
  have HA := Lib.hid ha
  clear ha
  go_loopg [7] (l.length + 8) (fun gk t7 wr => ∃ (f : Nat) (x : Sc) (gd : Nat) (err : Int) (F : Nat → Prop), t7 = .int .i64 err ∧ StB w wr n l a h b g p x gd F ∧ x.Good ∧ gd ≤ l.length ∧ 1 ≤ gk ∧ ((err = 0 ∧ scanG n l = scanN n l f x gd ∧ f ≤ gk ∧ l.length + 2 ≤ f + gd ∧ x.l.length ≤ gd) ∨ (err ≠ 0 ∧ scanG n l = (x, gd, err))))
  case atStart =>
    exact ⟨l.length + 8, Sc.start, 0, 0, _, rfl, HS0.out, good_start, by omega, by omega, Or.inl ⟨rfl, rfl, by omega, by omega, by simp [Sc.start]⟩⟩
  case round =>
    obtain ⟨f, x, gd, err, F, rfl, hS, hG, hgd, hg1, hor⟩ := hrel
    have ca : wr.cell? ⟨a, 0, none⟩ = some (.string (bs l)) := blk_cell hS.cs 0
    have cb : wr.cell? ⟨b, 0, none⟩ = some (.int .i64 gd) := blk_cell hS.cb 0
    have cp : wr.cell? ⟨p, 0, none⟩ = some (.pointer (some ⟨g, 0, none⟩)) := blk_cell hS.cp 0
    obtain ⟨vl, vo, hgb, hql, _, _, hFv, _, _⟩ := id hS.sc
    have c11 : wr.cell? ⟨g, 11, none⟩ = some (.bool x.begun) := blk_cell hgb 11
    have hls : ((bs l).size : Int) = l.length := by rw [bs_size]
    have HS := Lib.hid hS
    have HGb := Lib.hid hgb
    have HQl := Lib.hid hql
    have HFv := Lib.hid (show ∀ k, vl.ownBlock = some k → F k from hFv)
    have HG := Lib.hid hG
    clear hS hgb hql hG HS0 hFv
    rcases hor with ⟨rfl, hsc, hfg, hf, hfew⟩ | ⟨he, hsc⟩
    · obtain ⟨f0, rfl⟩ : ∃ f0, f = f0 + 1 := ⟨f - 1, by omega⟩
      have HSc := Lib.hid hsc
      clear hsc
      by_cases hc : gd < l.length ∨ x.begun = false
      · have HR := Lib.hid (round_calls w wr n l a h b g p x gd F HS.out hl HLy.out HG.out hfew hgd)
        by_cases hlt : gd < l.length
        · have hltb : decide ((gd : Int) < (l.length : Int)) = true := decide_eq_true (by omega)
          go_wp2_with fail
          refine (HR.out).mono ?_
          rintro e w2 ⟨rfl, F2, hS2, hd2⟩
          have HS2 := Lib.hid hS2
          clear hS2
          by_cases hz : (step1 n l x gd).2 = 0
          · have hzb : ((step1 n l x gd).2 == 0) = true := by simp [hz]
            have hd := hd2 hz
            have cd2 : w2.cell? ⟨wr.heap.size + 1, 0, none⟩ = some (.int .i64 (nextN (l.drop gd)).2.1) := blk_cell hd 0
            have cb2 : w2.cell? ⟨b, 0, none⟩ = some (.int .i64 gd) := blk_cell HS2.out.cb 0
            have zb2 : w2.frozen? ⟨b, 0, none⟩ = false := blk_frozen HS2.out.cb 0
            have HZ := Lib.hid hz
            have hnl := next_len (step1_next hz)
            rw [List.length_drop] at hnl
            obtain ⟨mm, hmm⟩ := Int.eq_ofNat_of_zero_le (show 0 ≤ (nextN (l.drop gd)).2.1 by omega)
            have HM := Lib.hid hmm
            rw [hmm] at cd2 hnl
            have hnew : wrap64 ((gd : Int) + mm) = (gd : Int) + mm := IntWalk.wrap64_in _ ⟨by omega, by have := hnl.2.1; omega⟩
            have HE := Lib.hid (show scanG n l = scanN n l f0 (step1 n l x gd).1 (gd + mm) by
              rw [HSc.out, scan_step n l f0 x gd hc, if_neg (fun h => h hz), hmm, Int.toNat_natCast])
            clear hd hd2 hz hmm
            go_wp2
            go_roundg (gk - 1)
            case rel =>
              exact ⟨f0, _, gd + mm, _, F2, rfl, stb_good HS2.out (gd + mm), step1_good HG.out n l gd, by have := hnl.2.1; omega, by omega, Or.inl ⟨HZ.out, HE.out, by omega, by omega, by have := step1_len n l x gd; omega⟩⟩
            all_goals omega
          · have hzb : ((step1 n l x gd).2 == 0) = false := by simp [hz]
            have HZ := Lib.hid hz
            have HE := Lib.hid (show scanG n l = ((step1 n l x gd).1, gd, (step1 n l x gd).2) by
              rw [HSc.out, scan_step n l f0 x gd hc, if_pos hz])
            clear hd2 hz
            go_wp2
            go_roundg (gk - 1)
            case rel =>
              exact ⟨f0, _, gd, _, F2, rfl, HS2.out, step1_good HG.out n l gd, hgd, by omega, Or.inr ⟨HZ.out, HE.out⟩⟩
            all_goals omega
        · have hltb : decide ((gd : Int) < (l.length : Int)) = false := decide_eq_false (by omega)
          have hbeg : x.begun = false := by rcases hc with h | h; exact absurd h hlt; exact h
          rw [hbeg] at c11
          go_wp2_with fail
          refine (HR.out).mono ?_
          rintro e w2 ⟨rfl, F2, hS2, hd2⟩
          have HS2 := Lib.hid hS2
          clear hS2
          by_cases hz : (step1 n l x gd).2 = 0
          · have hzb : ((step1 n l x gd).2 == 0) = true := by simp [hz]
            have hd := hd2 hz
            have cd2 : w2.cell? ⟨wr.heap.size + 1, 0, none⟩ = some (.int .i64 (nextN (l.drop gd)).2.1) := blk_cell hd 0
            have cb2 : w2.cell? ⟨b, 0, none⟩ = some (.int .i64 gd) := blk_cell HS2.out.cb 0
            have zb2 : w2.frozen? ⟨b, 0, none⟩ = false := blk_frozen HS2.out.cb 0
            have HZ := Lib.hid hz
            have hnl := next_len (step1_next hz)
            rw [List.length_drop] at hnl
            obtain ⟨mm, hmm⟩ := Int.eq_ofNat_of_zero_le (show 0 ≤ (nextN (l.drop gd)).2.1 by omega)
            have HM := Lib.hid hmm
            rw [hmm] at cd2 hnl
            have hnew : wrap64 ((gd : Int) + mm) = (gd : Int) + mm := IntWalk.wrap64_in _ ⟨by omega, by have := hnl.2.1; omega⟩
            have HE := Lib.hid (show scanG n l = scanN n l f0 (step1 n l x gd).1 (gd + mm) by
              rw [HSc.out, scan_step n l f0 x gd hc, if_neg (fun h => h hz), hmm, Int.toNat_natCast])
            exfalso
            omega
          · have hzb : ((step1 n l x gd).2 == 0) = false := by simp [hz]
            have HZ := Lib.hid hz
            have HE := Lib.hid (show scanG n l = ((step1 n l x gd).1, gd, (step1 n l x gd).2) by
              rw [HSc.out, scan_step n l f0 x gd hc, if_pos hz])
            clear hd2 hz
            go_wp2
            go_roundg (gk - 1)
            case rel =>
              exact ⟨f0, _, gd, _, F2, rfl, HS2.out, step1_good HG.out n l gd, hgd, by omega, Or.inr ⟨HZ.out, HE.out⟩⟩
            all_goals omega
      · have hltb : decide ((gd : Int) < (l.length : Int)) = false := decide_eq_false (by omega)
        have hbeg : x.begun = true := by cases h : x.begun; exact absurd (Or.inr h) hc; rfl
        rw [hbeg] at c11
        have HE := Lib.hid (show scanG n l = (x, gd, 0) by rw [HSc.out, scan_done n l f0 x gd hc])
        go_wp2_with fail
        refine start_ (n := 14) (S := (fun w' => w'.cell? ⟨p, 0, none⟩ = some (.pointer (some ⟨g, 0, none⟩)) ∧ w'.cell? ⟨g, 10, none⟩ = some vl ∧ w'.cell? ⟨b, 0, none⟩ = some (.int .i64 gd) ∧ w'.cell? ⟨g, 1, none⟩ = some (.int .i64 x.head.kind) ∧ w'.cell? ⟨g, 2, none⟩ = some (.int .u64 x.head.frame) ∧ w'.cell? ⟨g, 3, none⟩ = some (.int .u8 x.head.own) ∧ w'.cell? ⟨g, 4, none⟩ = some (.int .u8 x.head.p0) ∧ w'.cell? ⟨g, 5, none⟩ = some (.int .u8 x.head.p1) ∧ w'.cell? ⟨g, 6, none⟩ = some (.int .u64 x.head.seg) ∧ w'.cell? ⟨g, 7, none⟩ = some (.int .u64 x.head.first) ∧ w'.cell? ⟨g, 8, none⟩ = some (.int .u64 x.head.epoch) ∧ w'.cell? ⟨g, 9, none⟩ = some (.int .u8 x.head.player))) (ds := []) #[false, false, false, false, false, false, false, false, false, false, false, false, false, false] (by kernel_rfl) rfl rfl ⟨cp, blk_cell HGb.out 10, cb, blk_cell HGb.out 1, blk_cell HGb.out 2, blk_cell HGb.out 3, blk_cell HGb.out 4, blk_cell HGb.out 5, blk_cell HGb.out 6, blk_cell HGb.out 7, blk_cell HGb.out 8, blk_cell HGb.out 9⟩ (fun hHeld => ?_)
        clear cp cb ca c11
        have HBd := Lib.hid (pw_below_drewN HS.out.below 1)
        rw [show wr.drewN 1 = wr.drew from rfl] at HBd
        refine take_ (i := 0) (N := some 40) (v := ?_) (a' := ?_) #[true, false, false, false, false, false, false, false, false, false, false, false, false, false] rfl rfl (by kernel_rfl) (fun _ _ _ h => h) (Or.inl ⟨by rfl, ?_⟩) hHeld ?_ ?_
        rotate_left
        · rintro w' ⟨s0, s1, s2, s3, s4, s5, s6, s7, s8, s9, s10, s11⟩
          go_simp
          with_reducible rfl
        rotate_left
        · simp only [Act.put, List.setIfInBounds_toArray, List.set_cons_zero, List.set_cons_succ, i64_w, i32_w]
          rfl
        refine pure_ (i := 1) (N := some 41) (v := ?_) (a' := ?_) #[true, true, false, false, false, false, false, false, false, false, false, false, false, false] rfl rfl (by kernel_rfl) (fun _ _ _ h => h) (Or.inl ⟨by rfl, ?_⟩) ?_ ?_
        rotate_left
        · intro w'
          go_simp
          with_reducible rfl
        rotate_left
        · simp only [Act.put, List.setIfInBounds_toArray, List.set_cons_zero, List.set_cons_succ, i64_w, i32_w]
          rfl
        refine pure_ (i := 2) (N := some 42) (v := ?_) (a' := ?_) #[true, true, true, false, false, false, false, false, false, false, false, false, false, false] rfl rfl (by kernel_rfl) (fun _ _ _ h => h) (Or.inl ⟨by rfl, ?_⟩) ?_ ?_
        rotate_left
        · intro w'
          go_simp
          with_reducible rfl
        rotate_left
        · simp only [Act.put, List.setIfInBounds_toArray, List.set_cons_zero, List.set_cons_succ, i64_w, i32_w]
          rfl
        refine take_ (i := 3) (N := some 43) (v := ?_) (a' := ?_) #[true, true, true, true, false, false, false, false, false, false, false, false, false, false] rfl rfl (by kernel_rfl) (fun _ _ _ h => h) (Or.inl ⟨by rfl, ?_⟩) hHeld ?_ ?_
        rotate_left
        · rintro w' ⟨s0, s1, s2, s3, s4, s5, s6, s7, s8, s9, s10, s11⟩
          go_simp
          with_reducible rfl
        rotate_left
        · simp only [Act.put, List.setIfInBounds_toArray, List.set_cons_zero, List.set_cons_succ, i64_w, i32_w]
          rfl
        refine take_ (i := 4) (N := some 44) (v := ?_) (a' := ?_) #[true, true, true, true, true, false, false, false, false, false, false, false, false, false] rfl rfl (by kernel_rfl) (fun _ _ _ h => h) (Or.inl ⟨by rfl, ?_⟩) hHeld ?_ ?_
        rotate_left
        · rintro w' ⟨s0, s1, s2, s3, s4, s5, s6, s7, s8, s9, s10, s11⟩
          go_simp
          with_reducible rfl
        rotate_left
        · simp only [Act.put, List.setIfInBounds_toArray, List.set_cons_zero, List.set_cons_succ, i64_w, i32_w]
          rfl
        refine pure_ (i := 5) (N := some 45) (v := ?_) (a' := ?_) #[true, true, true, true, true, true, false, false, false, false, false, false, false, false] rfl rfl (by kernel_rfl) (fun _ _ _ h => h) (Or.inl ⟨by rfl, ?_⟩) ?_ ?_
        rotate_left
        · intro w'
          go_simp
          with_reducible rfl
        rotate_left
        · simp only [Act.put, List.setIfInBounds_toArray, List.set_cons_zero, List.set_cons_succ, i64_w, i32_w]
          rfl
        refine pure_ (i := 6) (N := some 46) (v := ?_) (a' := ?_) #[true, true, true, true, true, true, true, false, false, false, false, false, false, false] rfl rfl (by kernel_rfl) (fun _ _ _ h => h) (Or.inl ⟨by rfl, ?_⟩) ?_ ?_
        rotate_left
        · intro w'
          go_simp
          with_reducible rfl
        rotate_left
        · simp only [Act.put, List.setIfInBounds_toArray, List.set_cons_zero, List.set_cons_succ, i64_w, i32_w]
          rfl
        refine take_ (i := 7) (N := some 47) (v := ?_) (a' := ?_) #[true, true, true, true, true, true, true, true, false, false, false, false, false, false] rfl rfl (by kernel_rfl) (fun _ _ _ h => h) (Or.inl ⟨by rfl, ?_⟩) hHeld ?_ ?_
        rotate_left
        · rintro w' ⟨s0, s1, s2, s3, s4, s5, s6, s7, s8, s9, s10, s11⟩
          go_simp
          with_reducible rfl
        rotate_left
        · simp only [Act.put, List.setIfInBounds_toArray, List.set_cons_zero, List.set_cons_succ, i64_w, i32_w]
          rfl
        refine take_ (i := 8) (N := some 48) (v := ?_) (a' := ?_) #[true, true, true, true, true, true, true, true, true, false, false, false, false, false] rfl rfl (by kernel_rfl) (fun _ _ _ h => h) (Or.inl ⟨by rfl, ?_⟩) hHeld ?_ ?_
        rotate_left
        · rintro w' ⟨s0, s1, s2, s3, s4, s5, s6, s7, s8, s9, s10, s11⟩
          go_simp
          with_reducible rfl
        rotate_left
        · simp only [Act.put, List.setIfInBounds_toArray, List.set_cons_zero, List.set_cons_succ, i64_w, i32_w]
          rfl
        refine pure_ (i := 9) (N := some 49) (v := ?_) (a' := ?_) #[true, true, true, true, true, true, true, true, true, true, false, false, false, false] rfl rfl (by kernel_rfl) (fun _ _ _ h => h) (Or.inl ⟨by rfl, ?_⟩) ?_ ?_
        rotate_left
        · intro w'
          go_simp
          with_reducible rfl
        rotate_left
        · simp only [Act.put, List.setIfInBounds_toArray, List.set_cons_zero, List.set_cons_succ, i64_w, i32_w]
          rfl
        refine one_ (i := 10) (N := none) #[true, true, true, true, true, true, true, true, true, true, true, false, false, false] rfl rfl (by kernel_rfl) (by decide) (fun K hK => ?_)
        refine step_store_seg (W := wr.drew) (by rfl) 51 (.tmp 4) (.tmp 43) rfl info51 h 0 Rec.zero.cells 51 x.head (by rfl) (by rfl) HS.out.ch (by decide) ?_
        intro w6 hh6 hk6 hb6
        have HH6 := Lib.hid (show w6.heap[h]? = some (.cells x.head.cells 51 (0, 0)) from hh6)
        have HK6 := Lib.hid hk6
        have HB6 := Lib.hid (hb6 w.heap.size w HS.out.lo.2.1 HBd.out)
        have HG6 := Lib.hid (blk_kept (W := wr.drew) HGb.out hk6 (fun e => ne_types HGb.out HS.out.ch (by decide) e))
        have HP6 := Lib.hid (blk_kept (W := wr.drew) HS.out.cp hk6 (fun e => ne_types HS.out.cp HS.out.ch (by decide) e))
        have HC6 := Lib.hid (blk_kept (W := wr.drew) HS.out.cb hk6 (fun e => ne_types HS.out.cb HS.out.ch (by decide) e))
        clear hh6 hk6 hb6 hHeld
        refine hK.out _ _ ⟨blk_cell HP6.out 0, blk_cell HG6.out 10, blk_cell HC6.out 0, blk_cell HG6.out 1, blk_cell HG6.out 2, blk_cell HG6.out 3, blk_cell HG6.out 4, blk_cell HG6.out 5, blk_cell HG6.out 6, blk_cell HG6.out 7, blk_cell HG6.out 8, blk_cell HG6.out 9⟩ (fun hHeld => ?_)
        clear hK K
        refine pure_ (i := 11) (N := some 5) (v := ?_) (a' := ?_) #[true, true, true, true, true, true, true, true, true, true, true, true, false, false] rfl rfl (by kernel_rfl) (fun _ _ _ h => h) (Or.inl ⟨by rfl, ?_⟩) ?_ ?_
        rotate_left
        · intro w'
          go_simp
          with_reducible rfl
        rotate_left
        · simp only [Act.put, List.setIfInBounds_toArray, List.set_cons_zero, List.set_cons_succ, i64_w, i32_w]
          rfl
        refine one_ (i := 12) (N := none) #[true, true, true, true, true, true, true, true, true, true, true, true, true, false] rfl rfl (by kernel_rfl) (by decide) (fun K hK => ?_)
        have cb6 : w6.cell? ⟨b, 0, none⟩ = some (.int .i64 gd) := blk_cell HC6.out 0
        have zb6 : w6.frozen? ⟨b, 0, none⟩ = false := blk_frozen HC6.out 0
        refine skip_ (w1 := ?_) (by rfl) rfl ?_ ?_
        rotate_left
        · go_simp
          rfl
        clear hHeld
        refine hK.out _ _ ⟨blk_cell (blk_far HP6.out (ne_types HP6.out HC6.out (by decide)) _) 0, blk_cell (blk_far HG6.out (ne_types HG6.out HC6.out (by decide)) _) 10, blk_cell (blk_set HC6.out 0 _) 0, blk_cell (blk_far HG6.out (ne_types HG6.out HC6.out (by decide)) _) 1, blk_cell (blk_far HG6.out (ne_types HG6.out HC6.out (by decide)) _) 2, blk_cell (blk_far HG6.out (ne_types HG6.out HC6.out (by decide)) _) 3, blk_cell (blk_far HG6.out (ne_types HG6.out HC6.out (by decide)) _) 4, blk_cell (blk_far HG6.out (ne_types HG6.out HC6.out (by decide)) _) 5, blk_cell (blk_far HG6.out (ne_types HG6.out HC6.out (by decide)) _) 6, blk_cell (blk_far HG6.out (ne_types HG6.out HC6.out (by decide)) _) 7, blk_cell (blk_far HG6.out (ne_types HG6.out HC6.out (by decide)) _) 8, blk_cell (blk_far HG6.out (ne_types HG6.out HC6.out (by decide)) _) 9⟩ (fun hHeld => ?_)
        clear hK K hHeld
        refine pure_ (i := 13) (N := some 7) (v := ?_) (a' := ?_) #[true, true, true, true, true, true, true, true, true, true, true, true, true, true] rfl rfl (by kernel_rfl) (fun _ _ _ h => h) (Or.inl ⟨by rfl, ?_⟩) ?_ ?_
        rotate_left
        · intro w'
          go_simp
          with_reducible rfl
        rotate_left
        · simp only [Act.put, List.setIfInBounds_toArray, List.set_cons_zero, List.set_cons_succ, i64_w, i32_w]
          rfl
        refine done_ (by kernel_rfl) ?_
        have hhb : h ≠ b := ne_types HH6.out HC6.out (by decide)
        go_wp2_with fail
        refine bodyPost_ret (v := .tuple #[x.head.val, vl, .int .i64 gd, .int .i64 0]) (scan_res h b x.head gd rfl rfl (blk_far HH6.out hhb _) (blk_set HC6.out 0 _)) rfl ?_
        rw [HE.out]
        refine ⟨vl, rfl, q_move HQl.out (fun k e => ?_), HB6.out.setCell HS.out.lo.2.2.1 _⟩
        have hFk := HFv.out k e
        exact (Below.heap_setCell w6 ⟨b, 0, none⟩ _ k (fun e2 => HS.out.fb ((show k = b from e2) ▸ hFk))).trans (HK6.out.2 k (isc_lt HS.out.sc k hFk) (fun e2 => HS.out.fh (e2 ▸ hFk)))
    · have HSc := Lib.hid hsc
      have heb : (err == 0) = false := by simp [he]
      clear hsc
      have HE := HSc
      go_wp2_with fail
      refine start_ (n := 14) (S := (fun w' => w'.cell? ⟨p, 0, none⟩ = some (.pointer (some ⟨g, 0, none⟩)) ∧ w'.cell? ⟨g, 10, none⟩ = some vl ∧ w'.cell? ⟨b, 0, none⟩ = some (.int .i64 gd) ∧ w'.cell? ⟨g, 1, none⟩ = some (.int .i64 x.head.kind) ∧ w'.cell? ⟨g, 2, none⟩ = some (.int .u64 x.head.frame) ∧ w'.cell? ⟨g, 3, none⟩ = some (.int .u8 x.head.own) ∧ w'.cell? ⟨g, 4, none⟩ = some (.int .u8 x.head.p0) ∧ w'.cell? ⟨g, 5, none⟩ = some (.int .u8 x.head.p1) ∧ w'.cell? ⟨g, 6, none⟩ = some (.int .u64 x.head.seg) ∧ w'.cell? ⟨g, 7, none⟩ = some (.int .u64 x.head.first) ∧ w'.cell? ⟨g, 8, none⟩ = some (.int .u64 x.head.epoch) ∧ w'.cell? ⟨g, 9, none⟩ = some (.int .u8 x.head.player))) (ds := []) #[false, false, false, false, false, false, false, false, false, false, false, false, false, false] (by kernel_rfl) rfl rfl ⟨cp, blk_cell HGb.out 10, cb, blk_cell HGb.out 1, blk_cell HGb.out 2, blk_cell HGb.out 3, blk_cell HGb.out 4, blk_cell HGb.out 5, blk_cell HGb.out 6, blk_cell HGb.out 7, blk_cell HGb.out 8, blk_cell HGb.out 9⟩ (fun hHeld => ?_)
      clear cp cb ca c11
      have HBd := Lib.hid (pw_below_drewN HS.out.below 1)
      rw [show wr.drewN 1 = wr.drew from rfl] at HBd
      refine take_ (i := 0) (N := some 40) (v := ?_) (a' := ?_) #[true, false, false, false, false, false, false, false, false, false, false, false, false, false] rfl rfl (by kernel_rfl) (fun _ _ _ h => h) (Or.inl ⟨by rfl, ?_⟩) hHeld ?_ ?_
      rotate_left
      · rintro w' ⟨s0, s1, s2, s3, s4, s5, s6, s7, s8, s9, s10, s11⟩
        go_simp
        with_reducible rfl
      rotate_left
      · simp only [Act.put, List.setIfInBounds_toArray, List.set_cons_zero, List.set_cons_succ, i64_w, i32_w]
        rfl
      refine pure_ (i := 1) (N := some 41) (v := ?_) (a' := ?_) #[true, true, false, false, false, false, false, false, false, false, false, false, false, false] rfl rfl (by kernel_rfl) (fun _ _ _ h => h) (Or.inl ⟨by rfl, ?_⟩) ?_ ?_
      rotate_left
      · intro w'
        go_simp
        with_reducible rfl
      rotate_left
      · simp only [Act.put, List.setIfInBounds_toArray, List.set_cons_zero, List.set_cons_succ, i64_w, i32_w]
        rfl
      refine pure_ (i := 2) (N := some 42) (v := ?_) (a' := ?_) #[true, true, true, false, false, false, false, false, false, false, false, false, false, false] rfl rfl (by kernel_rfl) (fun _ _ _ h => h) (Or.inl ⟨by rfl, ?_⟩) ?_ ?_
      rotate_left
      · intro w'
        go_simp
        with_reducible rfl
      rotate_left
      · simp only [Act.put, List.setIfInBounds_toArray, List.set_cons_zero, List.set_cons_succ, i64_w, i32_w]
        rfl
      refine take_ (i := 3) (N := some 43) (v := ?_) (a' := ?_) #[true, true, true, true, false, false, false, false, false, false, false, false, false, false] rfl rfl (by kernel_rfl) (fun _ _ _ h => h) (Or.inl ⟨by rfl, ?_⟩) hHeld ?_ ?_
      rotate_left
      · rintro w' ⟨s0, s1, s2, s3, s4, s5, s6, s7, s8, s9, s10, s11⟩
        go_simp
        with_reducible rfl
      rotate_left
      · simp only [Act.put, List.setIfInBounds_toArray, List.set_cons_zero, List.set_cons_succ, i64_w, i32_w]
        rfl
      refine take_ (i := 4) (N := some 44) (v := ?_) (a' := ?_) #[true, true, true, true, true, false, false, false, false, false, false, false, false, false] rfl rfl (by kernel_rfl) (fun _ _ _ h => h) (Or.inl ⟨by rfl, ?_⟩) hHeld ?_ ?_
      rotate_left
      · rintro w' ⟨s0, s1, s2, s3, s4, s5, s6, s7, s8, s9, s10, s11⟩
        go_simp
        with_reducible rfl
      rotate_left
      · simp only [Act.put, List.setIfInBounds_toArray, List.set_cons_zero, List.set_cons_succ, i64_w, i32_w]
        rfl
      refine pure_ (i := 5) (N := some 45) (v := ?_) (a' := ?_) #[true, true, true, true, true, true, false, false, false, false, false, false, false, false] rfl rfl (by kernel_rfl) (fun _ _ _ h => h) (Or.inl ⟨by rfl, ?_⟩) ?_ ?_
      rotate_left
      · intro w'
        go_simp
        with_reducible rfl
      rotate_left
      · simp only [Act.put, List.setIfInBounds_toArray, List.set_cons_zero, List.set_cons_succ, i64_w, i32_w]
        rfl
      refine pure_ (i := 6) (N := some 46) (v := ?_) (a' := ?_) #[true, true, true, true, true, true, true, false, false, false, false, false, false, false] rfl rfl (by kernel_rfl) (fun _ _ _ h => h) (Or.inl ⟨by rfl, ?_⟩) ?_ ?_
      rotate_left
      · intro w'
        go_simp
        with_reducible rfl
      rotate_left
      · simp only [Act.put, List.setIfInBounds_toArray, List.set_cons_zero, List.set_cons_succ, i64_w, i32_w]
        rfl
      refine take_ (i := 7) (N := some 47) (v := ?_) (a' := ?_) #[true, true, true, true, true, true, true, true, false, false, false, false, false, false] rfl rfl (by kernel_rfl) (fun _ _ _ h => h) (Or.inl ⟨by rfl, ?_⟩) hHeld ?_ ?_
      rotate_left
      · rintro w' ⟨s0, s1, s2, s3, s4, s5, s6, s7, s8, s9, s10, s11⟩
        go_simp
        with_reducible rfl
      rotate_left
      · simp only [Act.put, List.setIfInBounds_toArray, List.set_cons_zero, List.set_cons_succ, i64_w, i32_w]
        rfl
      refine take_ (i := 8) (N := some 48) (v := ?_) (a' := ?_) #[true, true, true, true, true, true, true, true, true, false, false, false, false, false] rfl rfl (by kernel_rfl) (fun _ _ _ h => h) (Or.inl ⟨by rfl, ?_⟩) hHeld ?_ ?_
      rotate_left
      · rintro w' ⟨s0, s1, s2, s3, s4, s5, s6, s7, s8, s9, s10, s11⟩
        go_simp
        with_reducible rfl
      rotate_left
      · simp only [Act.put, List.setIfInBounds_toArray, List.set_cons_zero, List.set_cons_succ, i64_w, i32_w]
        rfl
      refine pure_ (i := 9) (N := some 49) (v := ?_) (a' := ?_) #[true, true, true, true, true, true, true, true, true, true, false, false, false, false] rfl rfl (by kernel_rfl) (fun _ _ _ h => h) (Or.inl ⟨by rfl, ?_⟩) ?_ ?_
      rotate_left
      · intro w'
        go_simp
        with_reducible rfl
      rotate_left
      · simp only [Act.put, List.setIfInBounds_toArray, List.set_cons_zero, List.set_cons_succ, i64_w, i32_w]
        rfl
      refine one_ (i := 10) (N := none) #[true, true, true, true, true, true, true, true, true, true, true, false, false, false] rfl rfl (by kernel_rfl) (by decide) (fun K hK => ?_)
      refine step_store_seg (W := wr.drew) (by rfl) 51 (.tmp 4) (.tmp 43) rfl info51 h 0 Rec.zero.cells 51 x.head (by rfl) (by rfl) HS.out.ch (by decide) ?_
      intro w6 hh6 hk6 hb6
      have HH6 := Lib.hid (show w6.heap[h]? = some (.cells x.head.cells 51 (0, 0)) from hh6)
      have HK6 := Lib.hid hk6
      have HB6 := Lib.hid (hb6 w.heap.size w HS.out.lo.2.1 HBd.out)
      have HG6 := Lib.hid (blk_kept (W := wr.drew) HGb.out hk6 (fun e => ne_types HGb.out HS.out.ch (by decide) e))
      have HP6 := Lib.hid (blk_kept (W := wr.drew) HS.out.cp hk6 (fun e => ne_types HS.out.cp HS.out.ch (by decide) e))
      have HC6 := Lib.hid (blk_kept (W := wr.drew) HS.out.cb hk6 (fun e => ne_types HS.out.cb HS.out.ch (by decide) e))
      clear hh6 hk6 hb6 hHeld
      refine hK.out _ _ ⟨blk_cell HP6.out 0, blk_cell HG6.out 10, blk_cell HC6.out 0, blk_cell HG6.out 1, blk_cell HG6.out 2, blk_cell HG6.out 3, blk_cell HG6.out 4, blk_cell HG6.out 5, blk_cell HG6.out 6, blk_cell HG6.out 7, blk_cell HG6.out 8, blk_cell HG6.out 9⟩ (fun hHeld => ?_)
      clear hK K
      refine pure_ (i := 11) (N := some 5) (v := ?_) (a' := ?_) #[true, true, true, true, true, true, true, true, true, true, true, true, false, false] rfl rfl (by kernel_rfl) (fun _ _ _ h => h) (Or.inl ⟨by rfl, ?_⟩) ?_ ?_
      rotate_left
      · intro w'
        go_simp
        with_reducible rfl
      rotate_left
      · simp only [Act.put, List.setIfInBounds_toArray, List.set_cons_zero, List.set_cons_succ, i64_w, i32_w]
        rfl
      refine one_ (i := 12) (N := none) #[true, true, true, true, true, true, true, true, true, true, true, true, true, false] rfl rfl (by kernel_rfl) (by decide) (fun K hK => ?_)
      have cb6 : w6.cell? ⟨b, 0, none⟩ = some (.int .i64 gd) := blk_cell HC6.out 0
      have zb6 : w6.frozen? ⟨b, 0, none⟩ = false := blk_frozen HC6.out 0
      refine skip_ (w1 := ?_) (by rfl) rfl ?_ ?_
      rotate_left
      · go_simp
        rfl
      clear hHeld
      refine hK.out _ _ ⟨blk_cell (blk_far HP6.out (ne_types HP6.out HC6.out (by decide)) _) 0, blk_cell (blk_far HG6.out (ne_types HG6.out HC6.out (by decide)) _) 10, blk_cell (blk_set HC6.out 0 _) 0, blk_cell (blk_far HG6.out (ne_types HG6.out HC6.out (by decide)) _) 1, blk_cell (blk_far HG6.out (ne_types HG6.out HC6.out (by decide)) _) 2, blk_cell (blk_far HG6.out (ne_types HG6.out HC6.out (by decide)) _) 3, blk_cell (blk_far HG6.out (ne_types HG6.out HC6.out (by decide)) _) 4, blk_cell (blk_far HG6.out (ne_types HG6.out HC6.out (by decide)) _) 5, blk_cell (blk_far HG6.out (ne_types HG6.out HC6.out (by decide)) _) 6, blk_cell (blk_far HG6.out (ne_types HG6.out HC6.out (by decide)) _) 7, blk_cell (blk_far HG6.out (ne_types HG6.out HC6.out (by decide)) _) 8, blk_cell (blk_far HG6.out (ne_types HG6.out HC6.out (by decide)) _) 9⟩ (fun hHeld => ?_)
      clear hK K hHeld
      refine pure_ (i := 13) (N := some 7) (v := ?_) (a' := ?_) #[true, true, true, true, true, true, true, true, true, true, true, true, true, true] rfl rfl (by kernel_rfl) (fun _ _ _ h => h) (Or.inl ⟨by rfl, ?_⟩) ?_ ?_
      rotate_left
      · intro w'
        go_simp
        with_reducible rfl
      rotate_left
      · simp only [Act.put, List.setIfInBounds_toArray, List.set_cons_zero, List.set_cons_succ, i64_w, i32_w]
        rfl
      refine done_ (by kernel_rfl) ?_
      have hhb : h ≠ b := ne_types HH6.out HC6.out (by decide)
      go_wp2_with fail
      refine bodyPost_ret (v := .tuple #[x.head.val, vl, .int .i64 gd, .int .i64 err]) (scan_res h b x.head gd rfl rfl (blk_far HH6.out hhb _) (blk_set HC6.out 0 _)) rfl ?_
      rw [HE.out]
      refine ⟨vl, rfl, q_move HQl.out (fun k e => ?_), HB6.out.setCell HS.out.lo.2.2.1 _⟩
      have hFk := HFv.out k e
      exact (Below.heap_setCell w6 ⟨b, 0, none⟩ _ k (fun e2 => HS.out.fb ((show k = b from e2) ▸ hFk))).trans (HK6.out.2 k (isc_lt HS.out.sc k hFk) (fun e2 => HS.out.fh (e2 ▸ hFk)))
end Go.Proofs.YtnhjhaphfdlkfaaDoor.Sg
/- The document: numbers. -/
set_option linter.unusedVariables false
set_option linter.unusedSimpArgs false
namespace Go.Proofs.YtnhjhaphfdlkfaaDoor.Sg
open Go.RowKit Go.Proofs.YtnhjhaphfdlkfaaDoor.HF Go.Proofs.YtnhjhaphfdlkfaaDoor.SB Go.Proofs.YtnhjhaphfdlkfaaDoorW.PrintWords Go.Proofs.YtnhjhaphfdlkfaaDoorW.PrintLast Go.Proofs.YtnhjhaphfdlkfaaDoorW.PrintMore
end Go.Proofs.YtnhjhaphfdlkfaaDoor.Sg
/- The document: Long; Take in plain words. -/
set_option linter.unusedVariables false
set_option linter.unusedSimpArgs false
namespace Go.Proofs.YtnhjhaphfdlkfaaDoor.Sg
open Go.RowKit Go.Proofs.YtnhjhaphfdlkfaaDoor.HF Go.Proofs.YtnhjhaphfdlkfaaDoor.SB Go.Proofs.YtnhjhaphfdlkfaaDoorW.PrintWords Go.Proofs.YtnhjhaphfdlkfaaDoorW.PrintLast Go.Proofs.YtnhjhaphfdlkfaaDoorW.PrintMore
end Go.Proofs.YtnhjhaphfdlkfaaDoor.Sg
/- The document: Take. -/
set_option linter.unusedVariables false
set_option linter.unusedSimpArgs false
namespace Go.Proofs.YtnhjhaphfdlkfaaDoor.Sg
open Go.RowKit Go.Proofs.YtnhjhaphfdlkfaaDoor.HF Go.Proofs.YtnhjhaphfdlkfaaDoor.SB Go.Proofs.YtnhjhaphfdlkfaaDoorW.PrintWords Go.Proofs.YtnhjhaphfdlkfaaDoorW.PrintLast Go.Proofs.YtnhjhaphfdlkfaaDoorW.PrintMore
end Go.Proofs.YtnhjhaphfdlkfaaDoor.Sg
/- The document's Said: what lies where; input. -/
set_option linter.unusedVariables false
set_option linter.unusedSimpArgs false
namespace Go.Proofs.YtnhjhaphfdlkfaaDoor.Sg
open Go.RowKit Go.Proofs.YtnhjhaphfdlkfaaDoor.HF Go.Proofs.YtnhjhaphfdlkfaaDoor.SB Go.Proofs.YtnhjhaphfdlkfaaDoorW.PrintWords Go.Proofs.YtnhjhaphfdlkfaaDoorW.PrintLast Go.Proofs.YtnhjhaphfdlkfaaDoorW.PrintMore
def rsCells (x : Sc) (vl : Value) : Array Value :=
  #[.int .i64 x.head.kind, .int .u64 x.head.frame, .int .u8 x.head.own, .int .u8 x.head.p0, .int .u8 x.head.p1, .int .u64 x.head.seg, .int .u64 x.head.first, .int .u64 x.head.epoch, .int .u8 x.head.player, .bool x.begun, vl, .int .u64 x.count, .int .u64 (x.count + x.owned.length)]
def IsRs (w : World) (base g : Nat) (x : Sc) (F : Nat → Prop) : Prop :=
  ∃ vl, w.heap[g]? = some (.cells (rsCells x vl) 109 (0, 0)) ∧ QRow w base 55 9 vl x.l.length (flatR x.l) ∧ F g ∧ (∀ k, vl.ownBlock = some k → F k) ∧ (∀ k, F k → base ≤ k ∧ k < w.heap.size)
end Go.Proofs.YtnhjhaphfdlkfaaDoor.Sg
/- The document's Said: what its input answers. -/
set_option linter.unusedVariables false
set_option linter.unusedSimpArgs false
namespace Go.Proofs.YtnhjhaphfdlkfaaDoor.Sg
open Go.RowKit
end Go.Proofs.YtnhjhaphfdlkfaaDoor.Sg
/- The document's Said: Take, of a head. -/
set_option linter.unusedVariables false
set_option linter.unusedSimpArgs false
namespace Go.Proofs.YtnhjhaphfdlkfaaDoor.Sg
open Go.RowKit Go.Proofs.YtnhjhaphfdlkfaaDoor.HF Go.Proofs.YtnhjhaphfdlkfaaDoor.SB Go.Proofs.YtnhjhaphfdlkfaaDoorW.PrintWords Go.Proofs.YtnhjhaphfdlkfaaDoorW.PrintLast Go.Proofs.YtnhjhaphfdlkfaaDoorW.PrintMore
end Go.Proofs.YtnhjhaphfdlkfaaDoor.Sg
/- The document's Said: between the steps of an append. -/
set_option linter.unusedVariables false
set_option linter.unusedSimpArgs false
namespace Go.Proofs.YtnhjhaphfdlkfaaDoor.Sg
open Go.RowKit Go.Proofs.YtnhjhaphfdlkfaaDoor.HF Go.Proofs.YtnhjhaphfdlkfaaDoor.SB Go.Proofs.YtnhjhaphfdlkfaaDoorW.PrintWords Go.Proofs.YtnhjhaphfdlkfaaDoorW.PrintLast Go.Proofs.YtnhjhaphfdlkfaaDoorW.PrintMore
structure MidR (w : World) (base g : Nat) (cs : Array Value) (r : Rec) (F : Nat → Prop) (w' : World) (L : List Rec) (vl' : Value) : Prop where
  hg : w'.heap[g]? = some (.cells cs 109 (0, 0))
  hr : w'.heap[w.heap.size]? = some (.cells r.cells 55 (0, 0))
  ql : QRow w' base 55 9 vl' L.length (flatR L)
  kept : Kept w w' F
  below : Below base w w'
  al : ∀ k, vl'.ownBlock = some k → F k ∧ k < w.heap.size ∨ w.heap.size < k
section
variable {w w' w2 : World} {base g : Nat} {cs : Array Value} {r : Rec} {F : Nat → Prop} {L : List Rec} {vl' : Value}
end
end Go.Proofs.YtnhjhaphfdlkfaaDoor.Sg
/- The document's Said: Take, of an own. -/
set_option linter.unusedVariables false
set_option linter.unusedSimpArgs false
namespace Go.Proofs.YtnhjhaphfdlkfaaDoor.Sg
open Go.RowKit Go.Proofs.YtnhjhaphfdlkfaaDoor.HF Go.Proofs.YtnhjhaphfdlkfaaDoor.SB Go.Proofs.YtnhjhaphfdlkfaaDoorW.PrintWords Go.Proofs.YtnhjhaphfdlkfaaDoorW.PrintLast Go.Proofs.YtnhjhaphfdlkfaaDoorW.PrintMore
end Go.Proofs.YtnhjhaphfdlkfaaDoor.Sg
/- The document's Said: Take, of a sure. -/
set_option linter.unusedVariables false
set_option linter.unusedSimpArgs false
namespace Go.Proofs.YtnhjhaphfdlkfaaDoor.Sg
open Go.RowKit Go.Proofs.YtnhjhaphfdlkfaaDoor.HF Go.Proofs.YtnhjhaphfdlkfaaDoor.SB Go.Proofs.YtnhjhaphfdlkfaaDoorW.PrintWords Go.Proofs.YtnhjhaphfdlkfaaDoorW.PrintLast Go.Proofs.YtnhjhaphfdlkfaaDoorW.PrintMore
end Go.Proofs.YtnhjhaphfdlkfaaDoor.Sg
/- The document's Said: Take, whole; between the rounds of its Scan. -/
set_option linter.unusedVariables false
set_option linter.unusedSimpArgs false
namespace Go.Proofs.YtnhjhaphfdlkfaaDoor.Sg
open Go.RowKit Go.Proofs.YtnhjhaphfdlkfaaDoor.HF Go.Proofs.YtnhjhaphfdlkfaaDoor.SB Go.Proofs.YtnhjhaphfdlkfaaDoorW.PrintWords Go.Proofs.YtnhjhaphfdlkfaaDoorW.PrintLast Go.Proofs.YtnhjhaphfdlkfaaDoorW.PrintMore
structure StR (w W : World) (h g : Nat) (x : Sc) (F : Nat → Prop) : Prop where
  ch : W.heap[h]? = some (.cells Rec.zero.cells 55 (0, 0))
  rs : IsRs W w.heap.size g x F
  fh : ¬ F h
  lo : w.heap.size ≤ h
  below : Below w.heap.size w W
/-- One round of Scan, by what comes up. -/
theorem scan_ways (n : Int) (l : List UInt8) (f : Nat) (x : Sc) (gd : Nat) (hc : gd < l.length ∨ x.begun = false) (T : List UInt8) (m e : Int) (hN : nextN (l.drop gd) = (T, m, e)) :
    (e ≠ 0 → scanN n l (f + 1) x gd = (x, gd, e)) ∧ (e = 0 → (takeG T).2 ≠ 0 → scanN n l (f + 1) x gd = (x, gd, (takeG T).2)) ∧
    (e = 0 → (takeG T).2 = 0 → (stakeS n x (takeG T).1).2 ≠ 0 → scanN n l (f + 1) x gd = ((stakeS n x (takeG T).1).1, gd, (stakeS n x (takeG T).1).2)) ∧
    (e = 0 → (takeG T).2 = 0 → (stakeS n x (takeG T).1).2 = 0 → scanN n l (f + 1) x gd = scanN n l f (stakeS n x (takeG T).1).1 (gd + m.toNat)) := by
  rw [scanN, if_pos hc, hN]
  simp only
  refine ⟨fun h => if_pos h, fun h1 h2 => ?_, fun h1 h2 h3 => ?_, fun h1 h2 h3 => ?_⟩
  · rw [if_neg (fun h => h h1), if_pos h2]
  · rw [if_neg (fun h => h h1), if_neg (fun h => h h2), if_pos h3]
  · rw [if_neg (fun h => h h1), if_neg (fun h => h h2), if_neg (fun h => h h3)]
end Go.Proofs.YtnhjhaphfdlkfaaDoor.Sg
/- The document's Scan, walked. -/
set_option linter.unusedVariables false
set_option linter.unusedSimpArgs false
namespace Go.Proofs.YtnhjhaphfdlkfaaDoor.Sg
open Go.RowKit Go.Proofs.YtnhjhaphfdlkfaaDoor.HF Go.Proofs.YtnhjhaphfdlkfaaDoor.SB Go.Proofs.YtnhjhaphfdlkfaaDoorW.PrintWords Go.Proofs.YtnhjhaphfdlkfaaDoorW.PrintLast Go.Proofs.YtnhjhaphfdlkfaaDoorW.PrintMore
end Go.Proofs.YtnhjhaphfdlkfaaDoor.Sg
/- A segment's records in plain words: what is put, cut anywhere, is scanned so; what is scanned was put so. -/
set_option linter.unusedVariables false
set_option linter.unusedSimpArgs false
namespace Go.Proofs.YtnhjhaphfdlkfaaDoor.Sg
open Go.RowKit Go.Proofs.YtnhjhaphfdlkfaaDoor.HF Go.Proofs.YtnhjhaphfdlkfaaDoor.SB
/-! ### frames -/
def recB (r : Rec) : List UInt8 := frameL r.text
def putsL : List Rec → List UInt8
  | [] => []
  | r :: l => recB r ++ putsL l
theorem putsL_append (a b : List Rec) : putsL (a ++ b) = putsL a ++ putsL b := by
  induction a with
  | nil => rfl
  | cons r a ih => simp [putsL, ih]
theorem frameL_len (a : List UInt8) : (frameL a).length = 6 + a.length := by
  unfold frameL headN
  rw [List.length_append, enc_len, List.length_append, Wr.leBytes_len, Wr.leBytes_len]
theorem recB_len (r : Rec) : (recB r).length = 6 + r.text.length := frameL_len _
theorem recB_le (r : Rec) : (recB r).length ≤ 32 := by rw [recB_len]; have := @text_len r; omega
theorem putsL_le (l : List Rec) : (putsL l).length ≤ 32 * l.length := by
  induction l with
  | nil => simp [putsL]
  | cons r l ih => rw [putsL, List.length_append, List.length_cons]; have := recB_le r; omega
theorem next_app (l q : List UInt8) (h : (nextN l).2.2 = 0) : nextN (l ++ q) = nextN l := by
  unfold nextN at h ⊢
  by_cases h6 : l.length < 6
  · rw [if_pos h6] at h; cases h
  rw [if_neg h6] at h ⊢
  have e2 : (l ++ q).take 2 = l.take 2 := List.take_append_of_le_length (by omega)
  have e6 : (l ++ q).drop 6 = l.drop 6 ++ q := List.drop_append_of_le_length (by omega)
  have e4 : ((l ++ q).drop 2).take 4 = (l.drop 2).take 4 := by
    rw [List.drop_append_of_le_length (by omega), List.take_append_of_le_length (by rw [List.length_drop]; omega)]
  rw [if_neg (by rw [List.length_append]; omega), e2, e4]
  by_cases h1 : 4096 < numN (l.take 2)
  · rw [if_pos h1] at h; cases h
  rw [if_neg h1] at h ⊢
  rw [if_neg h1]
  by_cases h2 : (l.drop 6).length < numN (l.take 2)
  · rw [if_pos h2] at h; cases h
  rw [if_neg h2] at h ⊢
  have et : ((l ++ q).drop 6).take (numN (l.take 2)) = (l.drop 6).take (numN (l.take 2)) := by
    rw [e6, List.take_append_of_le_length (by omega)]
  have es : sumOf (l ++ q) (numN (l.take 2)) = sumOf l (numN (l.take 2)) := by unfold sumOf; rw [e2, et]
  rw [if_neg (by rw [e6, List.length_append]; omega), es, et]
theorem next_cut (l : List UInt8) (h : (nextN l).2.2 = 0) : nextN (l.take (nextN l).2.1.toNat) = nextN l := by
  have hl := next_len h
  obtain ⟨m, hm⟩ := Int.eq_ofNat_of_zero_le (show 0 ≤ (nextN l).2.1 by omega)
  by_cases hz : (nextN (l.take (nextN l).2.1.toNat)).2.2 = 0
  · have := next_app _ (l.drop (nextN l).2.1.toNat) hz
    rw [List.take_append_drop] at this
    exact this.symm
  · exfalso
    apply hz
    have hk : (nextN l).2.1.toNat = 6 + numN (l.take 2) ∧ ¬ l.length < 6 ∧ ¬ 4096 < numN (l.take 2) ∧ ¬ (l.drop 6).length < numN (l.take 2) ∧ ¬ sumOf l (numN (l.take 2)) ≠ numN ((l.drop 2).take 4) := by
      unfold nextN at h ⊢
      by_cases h6 : l.length < 6
      · rw [if_pos h6] at h; cases h
      rw [if_neg h6] at h ⊢
      by_cases h1 : 4096 < numN (l.take 2)
      · rw [if_pos h1] at h; cases h
      rw [if_neg h1] at h ⊢
      by_cases h2 : (l.drop 6).length < numN (l.take 2)
      · rw [if_pos h2] at h; cases h
      rw [if_neg h2] at h ⊢
      by_cases h3 : sumOf l (numN (l.take 2)) ≠ numN ((l.drop 2).take 4)
      · rw [if_pos h3] at h; cases h
      rw [if_neg h3]
      exact ⟨by simp only; omega, h6, h1, h2, h3⟩
    obtain ⟨hn, h6, h1, h2, h3⟩ := hk
    rw [List.length_drop] at h2
    rw [hn]
    generalize hk : numN (l.take 2) = k at *
    have e2 : (l.take (6 + k)).take 2 = l.take 2 := by rw [List.take_take, Nat.min_eq_left (by omega)]
    have e4 : ((l.take (6 + k)).drop 2).take 4 = (l.drop 2).take 4 := by rw [List.drop_take, List.take_take, Nat.min_eq_left (by omega)]
    have e6 : (l.take (6 + k)).drop 6 = (l.drop 6).take k := by rw [List.drop_take]; congr 1; omega
    have es : sumOf (l.take (6 + k)) k = sumOf l k := by unfold sumOf; rw [e2, e6, List.take_take, Nat.min_self]
    unfold nextN
    rw [e2, e4, e6, hk, es, if_neg (by rw [List.length_take]; omega), if_neg h1, if_neg (by rw [List.length_take, List.length_drop]; omega), if_neg h3]
theorem next_rec (r : Rec) (q : List UInt8) : nextN (recB r ++ q) = (r.text, ((recB r).length : Int), 0) := by
  have ht : r.text.length ≤ 4096 := by have := @text_len r; omega
  have h := next_frame r.text ht
  have h2 : nextN (recB r) = (r.text, ((6 + r.text.length : Nat) : Int), 0) := h
  rw [next_app _ _ (by rw [h2]), h2, recB_len]
theorem next_torn (r : Rec) (k : Nat) (hk : k < (recB r).length) : nextN ((recB r).take k) = ([], 0, 10) := by
  have ht : r.text.length ≤ 4096 := by have := @text_len r; omega
  have hl := recB_len r
  unfold nextN
  by_cases h6 : k < 6
  · rw [if_pos (by rw [List.length_take]; omega)]
  have e2 : ((recB r).take k).take 2 = (recB r).take 2 := by rw [List.take_take, Nat.min_eq_left (by omega)]
  have n2 : numN ((recB r).take 2) = r.text.length := by
    have l2 := enc_le_len (r.text.length : Int) 2
    have : (recB r).take 2 = enc (Wr.leBytes (r.text.length : Int) 2) := by
      unfold recB frameL headN
      rw [bs_size, enc_append, List.append_assoc, List.take_left' l2]
    rw [this]
    exact num_le 2 _ (by omega)
  rw [if_neg (by rw [List.length_take]; omega), e2, n2, if_neg (by omega), if_pos (by rw [List.length_drop, List.length_take]; omega)]
theorem next_is (l : List UInt8) (h : (nextN l).2.2 = 0) : l.take (nextN l).2.1.toNat = frameL (nextN l).1 := by
  have hl := next_len h
  have hc := next_cut l h
  have h1 : (nextN (l.take (nextN l).2.1.toNat)).2.1 = ((l.take (nextN l).2.1.toNat).length : Int) := by
    rw [hc, List.length_take]; omega
  have := (next_inv (l.take (nextN l).2.1.toNat) (by rw [hc]; exact h) h1).2
  rw [hc, frame_list] at this
  have e := congrArg (fun b : ByteArray => b.data.toList) this
  unfold frameL
  simpa [bs_list] using e
/-! ### a record's text -/
theorem st_zero {r : Option (List UInt8)} (h : (st r).2 = 0) (h2 : (st r).1 = bs []) : r = some [] := by
  cases r with
  | none => cases h
  | some l =>
    have e : bs l = bs [] := h2
    have := congrArg (fun b : ByteArray => b.data.toList) e
    simp only [bs_list] at this
    rw [this]
theorem g_inv (w : Nat) (r : Option (List UInt8)) (L : List UInt8) (h : (g w r).2 = some L) : ∃ l, r = some l ∧ l = enc (Wr.leBytes (g w r).1 w) ++ L ∧ 0 ≤ (g w r).1 ∧ (g w r).1 < ((256 ^ w : Nat) : Int) := by
  cases r with
  | none => cases h
  | some l =>
    by_cases hw : w ≤ l.length
    · rw [g_yes w l hw] at h ⊢
      simp only at h ⊢
      cases h
      have hl : (l.take w).length = w := by rw [List.length_take]; omega
      have := le_num (l.take w)
      have hn := numN_lt (l.take w)
      rw [hl] at this hn
      refine ⟨l, rfl, ?_, by omega, by omega⟩
      rw [this, List.take_append_drop]
    · rw [g_no w l hw] at h
      cases h
theorem take_inv {p : List UInt8} (h : (takeG p).2 = 0) : (takeG p).1.text = p := by
  unfold takeG at h ⊢
  by_cases h0 : p = []
  · rw [if_pos h0] at h; cases h
  rw [if_neg h0] at h ⊢
  by_cases hk : (g 1 (some p)).1 = 1 ∨ (g 1 (some p)).1 = 2 ∨ (g 1 (some p)).1 = 3
  · rw [if_pos hk] at h ⊢
    by_cases h1 : (st (fieldsG { Rec.zero with kind := (g 1 (some p)).1 } (g 1 (some p)).2).2).2 = 0
    · rw [if_pos h1] at h ⊢
      by_cases h2 : (st (fieldsG { Rec.zero with kind := (g 1 (some p)).1 } (g 1 (some p)).2).2).1 = bs [] ∧ (fieldsG { Rec.zero with kind := (g 1 (some p)).1 } (g 1 (some p)).2).1.right = true
      · rw [if_pos h2]
        have hz := st_zero h1 h2.1
        clear h h1 h2
        have hi := fun L hL => g_inv 1 (some p) L hL
        generalize (g 1 (some p)).2 = q at *
        generalize (g 1 (some p)).1 = k at *
        unfold fieldsG at hz ⊢
        unfold Rec.text Rec.bytes
        rcases hk with rfl | rfl | rfl
        · simp only [if_true] at hz ⊢
          obtain ⟨l1, e1, f1, _⟩ := g_inv 1 _ _ hz
          obtain ⟨l2, e2, f2, _⟩ := g_inv 8 _ _ e1
          obtain ⟨l3, e3, f3, _⟩ := hi _ e2
          cases e3
          rw [f3, f2, f1]
          simp [enc_append]
        · rw [if_neg (show ¬ (2 : Int) = 1 by omega), if_pos rfl] at hz
          simp only [if_neg (show ¬ (2 : Int) = 1 by omega), if_true]
          obtain ⟨l0, e0, f0, _⟩ := g_inv 1 _ _ hz
          obtain ⟨l1, e1, f1, _⟩ := g_inv 1 _ _ e0
          obtain ⟨l2, e2, f2, _⟩ := g_inv 8 _ _ e1
          obtain ⟨l3, e3, f3, _⟩ := hi _ e2
          cases e3
          rw [f3, f2, f1, f0]
          simp [enc_append]
        · rw [if_neg (show ¬ (3 : Int) = 1 by omega), if_neg (show ¬ (3 : Int) = 2 by omega)] at hz
          simp only [if_neg (show ¬ (3 : Int) = 1 by omega), if_neg (show ¬ (3 : Int) = 2 by omega)]
          obtain ⟨l9, e9, f9, _⟩ := g_inv 1 _ _ hz
          obtain ⟨l0, e0, f0, _⟩ := g_inv 8 _ _ e9
          obtain ⟨l1, e1, f1, _⟩ := g_inv 8 _ _ e0
          obtain ⟨l2, e2, f2, _⟩ := g_inv 8 _ _ e1
          obtain ⟨l3, e3, f3, _⟩ := hi _ e2
          cases e3
          rw [f3, f2, f1, f0, f9]
          simp [enc_append]
      · rw [if_neg h2] at h; cases h
    · rw [if_neg h1] at h; exact absurd h h1
  · rw [if_neg hk] at h; cases h
/-! ### records that are fed, one behind the other -/
inductive Feed (n : Int) : Sc → List Rec → Sc → Prop
  | nil (x : Sc) : Feed n x [] x
  | cons {x x1 x' : Sc} {r : Rec} {l : List Rec} : stakeS n x r = (x1, 0) → r.may → Feed n x1 l x' → Feed n x (r :: l) x'
theorem Feed.snoc {n : Int} {x y z : Sc} {l : List Rec} {r : Rec} (h : Feed n x l y) (hs : stakeS n y r = (z, 0)) (hr : r.may) : Feed n x (l ++ [r]) z := by
  induction h with
  | nil => exact .cons hs hr (.nil _)
  | cons h1 h2 h3 ih => exact .cons h1 h2 (ih hs)
theorem stake_err {n : Int} {x : Sc} {r : Rec} (h : (stakeS n x r).2 ≠ 0) : (stakeS n x r).1 = x := by
  unfold stakeS beginS sureS ownS at h ⊢
  split
  · rename_i h3
    rw [if_pos h3] at h
    split
    · rfl
    · rename_i h4; rw [if_neg h4] at h; exact absurd rfl h
  · rename_i h3
    rw [if_neg h3] at h
    split
    · rename_i h2
      rw [if_pos h2] at h
      split
      · rfl
      · rename_i o os ho
        rw [ho] at h
        simp only at h
        split
        · rename_i h4
          rw [if_pos h4] at h
          split
          · rename_i h5; rw [if_pos h5] at h; exact absurd rfl h
          · rfl
        · rfl
    · rename_i h2
      rw [if_neg h2] at h
      split
      · rename_i h4; rw [if_pos h4] at h; exact absurd rfl h
      · rfl
/-- What is put, cut anywhere, is scanned so. -/
theorem scan_cut (n : Int) {rs : List Rec} {x x' : Sc} (hF : Feed n x rs x') : ∀ (b : List UInt8) (k gd f : Nat), b.drop gd = (putsL rs).take k → k ≤ (putsL rs).length → gd + k = b.length → k + 1 ≤ f →
    ∃ (j : Nat) (xj : Sc), j ≤ rs.length ∧ Feed n x (rs.take j) xj ∧ (putsL (rs.take j)).length ≤ k ∧ (j < rs.length → k < (putsL (rs.take (j + 1))).length) ∧
      scanN n b f x gd = (xj, gd + (putsL (rs.take j)).length, if (putsL (rs.take j)).length = k ∧ xj.begun = true then 0 else 10) := by
  induction hF with
  | nil x =>
    intro b k gd f hb hk hg hf
    obtain ⟨f, rfl⟩ : ∃ f0, f = f0 + 1 := ⟨f - 1, by omega⟩
    have hk0 : k = 0 := by simp [putsL] at hk; exact hk
    subst hk0
    refine ⟨0, x, by simp, .nil _, by simp [putsL], by simp, ?_⟩
    by_cases hbg : x.begun = true
    · rw [scan_done n b f x gd (by rw [hbg]; simp; omega), if_pos ⟨rfl, hbg⟩]; rfl
    · rw [(scan_ways n b f x gd (Or.inr (by simpa using hbg)) [] 0 10 (by rw [hb]; rfl)).1 (by decide), if_neg (fun h => hbg h.2)]; rfl
  | @cons x x1 x' r l h1 h2 h3 ih =>
    intro b k gd f hb hk hg hf
    obtain ⟨f, rfl⟩ : ∃ f0, f = f0 + 1 := ⟨f - 1, by omega⟩
    rw [putsL] at hb hk
    rw [List.length_append] at hk
    by_cases hlt : k < (recB r).length
    · rw [List.take_append_of_le_length (by omega)] at hb
      have hN := next_torn r k hlt
      rw [← hb] at hN
      refine ⟨0, x, by omega, .nil _, by simp [putsL], fun _ => by simpa [putsL] using hlt, ?_⟩
      by_cases hc : gd < b.length ∨ x.begun = false
      · rw [(scan_ways n b f x gd hc [] 0 10 hN).1 (by decide)]
        have : ¬ ((putsL (List.take 0 (r :: l))).length = k ∧ x.begun = true) := fun h => by
          have h0 : k = 0 := by simpa [putsL] using h.1.symm
          rcases hc with hc | hc
          · omega
          · rw [hc] at h; exact absurd h.2 (by decide)
        rw [if_neg this]; rfl
      · have hbg : x.begun = true := by cases h : x.begun; exact absurd (Or.inr h) hc; rfl
        rw [scan_done n b f x gd hc, if_pos ⟨by simp [putsL]; omega, hbg⟩]; rfl
    · obtain ⟨k, rfl⟩ : ∃ k1, k = (recB r).length + k1 := ⟨k - (recB r).length, by omega⟩
      rw [List.take_length_add_append] at hb
      have hN : nextN (b.drop gd) = (r.text, ((recB r).length : Int), 0) := by rw [hb]; exact next_rec r _
      have hl := recB_len r
      have hw := (scan_ways n b f x gd (Or.inl (by omega)) _ _ _ hN).2.2.2 rfl (by rw [take_text h2]) (by rw [take_text h2, h1])
      rw [take_text h2, h1, Int.toNat_natCast] at hw
      simp only at hw
      obtain ⟨j, xj, c1, c2, c3, c4, c5⟩ := ih b k (gd + (recB r).length) f (by rw [← List.drop_drop, hb, List.drop_left]) (by omega) (by omega) (by rw [recB_len] at hf; omega)
      have hp : ∀ i, (putsL ((r :: l).take (i + 1))).length = (recB r).length + (putsL (l.take i)).length := fun i => by rw [List.take_succ_cons, putsL, List.length_append]
      refine ⟨j + 1, xj, by rw [List.length_cons]; omega, by rw [List.take_succ_cons]; exact .cons h1 h2 c2, by rw [hp]; omega, fun h => by rw [hp]; rw [List.length_cons] at h; have := c4 (by omega); omega, ?_⟩
      rw [hw, c5, hp, ← Nat.add_assoc]
      congr 2
      simp only [Nat.add_left_cancel_iff]
/-- What is scanned was put so. -/
theorem scan_fed (n : Int) (b : List UInt8) : ∀ (f : Nat) (x : Sc) (gd : Nat) (rs : List Rec), Feed n Sc.start rs x → b.take gd = putsL rs → gd ≤ b.length →
    ∃ rs', Feed n Sc.start rs' (scanN n b f x gd).1 ∧ b.take (scanN n b f x gd).2.1 = putsL rs' ∧ (scanN n b f x gd).2.1 ≤ b.length := by
  intro f
  induction f with
  | zero => intro x gd rs h1 h2 h3; exact ⟨rs, h1, h2, h3⟩
  | succ f ih =>
    intro x gd rs h1 h2 h3
    by_cases hc : gd < b.length ∨ x.begun = false
    · have hN : ∃ T m e, nextN (b.drop gd) = (T, m, e) := ⟨_, _, _, rfl⟩
      obtain ⟨T, m, e, hN⟩ := hN
      obtain ⟨w1, w2, w3, w4⟩ := scan_ways n b f x gd hc T m e hN
      by_cases e1 : e = 0
      · by_cases e2 : (takeG T).2 = 0
        · by_cases e3 : (stakeS n x (takeG T).1).2 = 0
          · rw [w4 e1 e2 e3]
            have hz : (nextN (b.drop gd)).2.2 = 0 := by rw [hN]; exact e1
            have hl := next_len hz
            have hi := next_is _ hz
            rw [hN] at hl hi
            rw [List.length_drop] at hl
            simp only at hl hi
            refine ih _ _ (rs ++ [(takeG T).1]) (h1.snoc (Prod.ext rfl e3) (take_may e2)) ?_ (by omega)
            rw [List.take_add, h2, hi, putsL_append]
            show _ = putsL rs ++ (recB _ ++ [])
            rw [List.append_nil, recB, take_inv e2]
          · rw [w3 e1 e2 e3, stake_err e3]; exact ⟨rs, h1, h2, h3⟩
        · rw [w2 e1 e2]; exact ⟨rs, h1, h2, h3⟩
      · rw [w1 e1]; exact ⟨rs, h1, h2, h3⟩
    · rw [scan_done n b f x gd hc]; exact ⟨rs, h1, h2, h3⟩
end Go.Proofs.YtnhjhaphfdlkfaaDoor.Sg
/- The laws' head, own, sure; put. -/
set_option linter.unusedVariables false
set_option linter.unusedSimpArgs false
namespace Go.Proofs.YtnhjhaphfdlkfaaDoor.Sg
open Go.RowKit Go.Proofs.YtnhjhaphfdlkfaaDoor.HF Go.Proofs.YtnhjhaphfdlkfaaDoor.SB Go.Proofs.YtnhjhaphfdlkfaaDoorW.PrintWords Go.Proofs.YtnhjhaphfdlkfaaDoorW.PrintLast Go.Proofs.YtnhjhaphfdlkfaaDoorW.PrintMore
theorem lhead_res {tmps : Array Value} {w : World} (b : Nat) (R : Rec) (h2 : tmps.getD 4 undef = .pointer (some ⟨b, 0, none⟩)) (hb : w.heap[b]? = some (.cells R.cells 51 (0, 0))) : (results Tryd.f43 tmps).run Tryd.prog w = .ok R.val w := by
  have h1 := run_loadVar_row (P := Tryd.prog) w b 51 51 R.cells (0, 0) _ hb Tryd.underlying51 rfl info51
  unfold results
  rw [Tryd.results43, show (#[ResultVar.cell 4 51] : Array ResultVar) = [ResultVar.cell 4 51].toArray from rfl, List.mapM_toArray]
  simp only [List.mapM_cons, List.mapM_nil, Sem.run_bind, Sem.run_map, Sem.run_pure, Result.andThen_ok, h2, asAddr, h1]
  rfl
set_option maxHeartbeats 1000000 in
set_option maxRecDepth 100000 in
theorem lhead_calls (w : World) (base : Nat) (hbw : base ≤ w.heap.size) (s f : Int) : Calls Tryd.prog 43 #[.int .u64 s, .int .u64 f] w fun e w' => e = .returned (⟨3, 0, 0, 0, 0, s, f, 1, 0⟩ : Rec).val ∧ Below base w w' := by
  have HZ := Lib.hid (heap_alloc_new w (.cells Rec.zero.cells 51))
  have HB := Lib.hid ((Below.refl base w).alloc hbw (.cells Rec.zero.cells 51))
  go_enter Tryd.func43, Tryd.ntmps43
  go_wp2_with (first | ((with_reducible refine gate_store (t := 51) (p := 4) rfl ?_); refine store_rec rfl 51 (.tmp 4) (.tmp 7) rfl info51 w.heap.size 51 (⟨3, 0, 0, 0, 0, s, f, 1, 0⟩ : Rec) Rec.zero rfl rfl HZ.out ?_; intro w2 hz2 hk2 hb2; have HZ2 := Lib.hid hz2; have HB2 := Lib.hid (hb2 base w hbw HB.out); clear hz2 hk2 hb2))
  exact bodyPost_ret (v := (⟨3, 0, 0, 0, 0, s, f, 1, 0⟩ : Rec).val) (lhead_res w.heap.size (⟨3, 0, 0, 0, 0, s, f, 1, 0⟩ : Rec) rfl HZ2.out) rfl ⟨rfl, HB2.out⟩
theorem lown_res {tmps : Array Value} {w : World} (b : Nat) (R : Rec) (h2 : tmps.getD 4 undef = .pointer (some ⟨b, 0, none⟩)) (hb : w.heap[b]? = some (.cells R.cells 51 (0, 0))) : (results Tryd.f44 tmps).run Tryd.prog w = .ok R.val w := by
  have h1 := run_loadVar_row (P := Tryd.prog) w b 51 51 R.cells (0, 0) _ hb Tryd.underlying51 rfl info51
  unfold results
  rw [Tryd.results44, show (#[ResultVar.cell 4 51] : Array ResultVar) = [ResultVar.cell 4 51].toArray from rfl, List.mapM_toArray]
  simp only [List.mapM_cons, List.mapM_nil, Sem.run_bind, Sem.run_map, Sem.run_pure, Result.andThen_ok, h2, asAddr, h1]
  rfl
set_option maxHeartbeats 1000000 in
set_option maxRecDepth 100000 in
theorem lown_calls (w : World) (base : Nat) (hbw : base ≤ w.heap.size) (f o : Int) : Calls Tryd.prog 44 #[.int .u64 f, .int .u8 o] w fun e w' => e = .returned (⟨1, f, o, 0, 0, 0, 0, 0, 0⟩ : Rec).val ∧ Below base w w' := by
  have HZ := Lib.hid (heap_alloc_new w (.cells Rec.zero.cells 51))
  have HB := Lib.hid ((Below.refl base w).alloc hbw (.cells Rec.zero.cells 51))
  go_enter Tryd.func44, Tryd.ntmps44
  go_wp2_with (first | ((with_reducible refine gate_store (t := 51) (p := 4) rfl ?_); refine store_rec rfl 51 (.tmp 4) (.tmp 7) rfl info51 w.heap.size 51 (⟨1, f, o, 0, 0, 0, 0, 0, 0⟩ : Rec) Rec.zero rfl rfl HZ.out ?_; intro w2 hz2 hk2 hb2; have HZ2 := Lib.hid hz2; have HB2 := Lib.hid (hb2 base w hbw HB.out); clear hz2 hk2 hb2))
  exact bodyPost_ret (v := (⟨1, f, o, 0, 0, 0, 0, 0, 0⟩ : Rec).val) (lown_res w.heap.size (⟨1, f, o, 0, 0, 0, 0, 0, 0⟩ : Rec) rfl HZ2.out) rfl ⟨rfl, HB2.out⟩
theorem lsure_res {tmps : Array Value} {w : World} (b : Nat) (R : Rec) (h2 : tmps.getD 6 undef = .pointer (some ⟨b, 0, none⟩)) (hb : w.heap[b]? = some (.cells R.cells 51 (0, 0))) : (results Tryd.f45 tmps).run Tryd.prog w = .ok R.val w := by
  have h1 := run_loadVar_row (P := Tryd.prog) w b 51 51 R.cells (0, 0) _ hb Tryd.underlying51 rfl info51
  unfold results
  rw [Tryd.results45, show (#[ResultVar.cell 6 51] : Array ResultVar) = [ResultVar.cell 6 51].toArray from rfl, List.mapM_toArray]
  simp only [List.mapM_cons, List.mapM_nil, Sem.run_bind, Sem.run_map, Sem.run_pure, Result.andThen_ok, h2, asAddr, h1]
  rfl
set_option maxHeartbeats 1000000 in
set_option maxRecDepth 100000 in
theorem lsure_calls (w : World) (base : Nat) (hbw : base ≤ w.heap.size) (f a b : Int) : Calls Tryd.prog 45 #[.int .u64 f, .int .u8 a, .int .u8 b] w fun e w' => e = .returned (⟨2, f, 0, a, b, 0, 0, 0, 0⟩ : Rec).val ∧ Below base w w' := by
  have HZ := Lib.hid (heap_alloc_new w (.cells Rec.zero.cells 51))
  have HB := Lib.hid ((Below.refl base w).alloc hbw (.cells Rec.zero.cells 51))
  go_enter Tryd.func45, Tryd.ntmps45
  go_wp2_with (first | ((with_reducible refine gate_store (t := 51) (p := 6) rfl ?_); refine store_rec rfl 51 (.tmp 6) (.tmp 11) rfl info51 w.heap.size 51 (⟨2, f, 0, a, b, 0, 0, 0, 0⟩ : Rec) Rec.zero rfl rfl HZ.out ?_; intro w2 hz2 hk2 hb2; have HZ2 := Lib.hid hz2; have HB2 := Lib.hid (hb2 base w hbw HB.out); clear hz2 hk2 hb2))
  exact bodyPost_ret (v := (⟨2, f, 0, a, b, 0, 0, 0, 0⟩ : Rec).val) (lsure_res w.heap.size (⟨2, f, 0, a, b, 0, 0, 0, 0⟩ : Rec) rfl HZ2.out) rfl ⟨rfl, HB2.out⟩
theorem q_below {w w' : World} {base n size : Nat} {e : TypeId} {v : Value} {xs : List Value} (h : QRow w base e size v n xs) (hB : Below w.heap.size w w') : QRow w' base e size v n xs := q_move h (fun k e => hB.block k (q_lt h k e))
theorem putsL_take (l : List Rec) (k : Nat) (h : k < l.length) : putsL (l.take (k + 1)) = putsL (l.take k) ++ recB l[k] := by
  rw [List.take_succ_eq_append_getElem h, putsL_append, putsL, putsL, List.append_nil]
set_option maxHeartbeats 1000000 in
set_option maxRecDepth 100000 in
theorem put25_calls (w : World) (HL : Lay w) (base : Nat) (v : Value) (l : List Rec) (h : QRow w base 51 9 v l.length (flatR l)) (hm : ∀ r ∈ l, r.may) (hll : l.length ≤ 100000) :
    Calls Tryd.prog 25 #[v] w fun e w' => e = .returned (.string (bs (putsL l))) ∧ Below w.heap.size w w' := by
  obtain ⟨Al, cl, rfl, hlc⟩ := q_slice h
  have HQ := Lib.hid h
  have HLy := Lib.hid HL
  clear h HL
  go_enter Tryd.func25, Tryd.ntmps25
  go_wp2_with fail
  go_loopw [3, 4] (fun t3 t4 wr => ∃ k : Nat, k ≤ l.length ∧ t4 = .int .i64 k ∧ t3 = .string (bs (putsL (l.take k))) ∧ Below w.heap.size w wr) (fun _ t4 _ => l.length - (intOf t4).toNat)
  case atStart => exact ⟨0, by omega, rfl, rfl, Below.refl _ _⟩
  case round =>
    obtain ⟨k, hk, rfl, rfl, hB⟩ := hrel
    have HB := Lib.hid hB
    clear hB
    by_cases hlt : k < l.length
    · have hltb : decide ((k : Int) < (l.length : Int)) = true := decide_eq_true (by omega)
      have hk0 : 0 ≤ (k : Int) := by omega
      obtain ⟨⟨bo, fo, po⟩, rfl, hco⟩ := q_cells (q_below HQ.out HB.out) (by omega)
      have r0 : wr.cell? ((⟨bo, fo, po⟩ : Addr).add (k * 9)) = some (.int .i64 (l[k]).kind) := hco _ _ (flatR_at l k hlt 0 (by omega))
      have r1 : wr.cell? ⟨((⟨bo, fo, po⟩ : Addr).add (k * 9)).block, ((⟨bo, fo, po⟩ : Addr).add (k * 9)).off + 1, none⟩ = some (.int .u64 (l[k]).frame) := (show wr.cell? (((⟨bo, fo, po⟩ : Addr).add (k * 9)).add 1) = _ by rw [Addr.add_add]; exact hco _ _ (flatR_at l k hlt 1 (by omega)))
      have r2 : wr.cell? ⟨((⟨bo, fo, po⟩ : Addr).add (k * 9)).block, ((⟨bo, fo, po⟩ : Addr).add (k * 9)).off + 2, none⟩ = some (.int .u8 (l[k]).own) := (show wr.cell? (((⟨bo, fo, po⟩ : Addr).add (k * 9)).add 2) = _ by rw [Addr.add_add]; exact hco _ _ (flatR_at l k hlt 2 (by omega)))
      have r3 : wr.cell? ⟨((⟨bo, fo, po⟩ : Addr).add (k * 9)).block, ((⟨bo, fo, po⟩ : Addr).add (k * 9)).off + 3, none⟩ = some (.int .u8 (l[k]).p0) := (show wr.cell? (((⟨bo, fo, po⟩ : Addr).add (k * 9)).add 3) = _ by rw [Addr.add_add]; exact hco _ _ (flatR_at l k hlt 3 (by omega)))
      have r4 : wr.cell? ⟨((⟨bo, fo, po⟩ : Addr).add (k * 9)).block, ((⟨bo, fo, po⟩ : Addr).add (k * 9)).off + 4, none⟩ = some (.int .u8 (l[k]).p1) := (show wr.cell? (((⟨bo, fo, po⟩ : Addr).add (k * 9)).add 4) = _ by rw [Addr.add_add]; exact hco _ _ (flatR_at l k hlt 4 (by omega)))
      have r5 : wr.cell? ⟨((⟨bo, fo, po⟩ : Addr).add (k * 9)).block, ((⟨bo, fo, po⟩ : Addr).add (k * 9)).off + 5, none⟩ = some (.int .u64 (l[k]).seg) := (show wr.cell? (((⟨bo, fo, po⟩ : Addr).add (k * 9)).add 5) = _ by rw [Addr.add_add]; exact hco _ _ (flatR_at l k hlt 5 (by omega)))
      have r6 : wr.cell? ⟨((⟨bo, fo, po⟩ : Addr).add (k * 9)).block, ((⟨bo, fo, po⟩ : Addr).add (k * 9)).off + 6, none⟩ = some (.int .u64 (l[k]).first) := (show wr.cell? (((⟨bo, fo, po⟩ : Addr).add (k * 9)).add 6) = _ by rw [Addr.add_add]; exact hco _ _ (flatR_at l k hlt 6 (by omega)))
      have r7 : wr.cell? ⟨((⟨bo, fo, po⟩ : Addr).add (k * 9)).block, ((⟨bo, fo, po⟩ : Addr).add (k * 9)).off + 7, none⟩ = some (.int .u64 (l[k]).epoch) := (show wr.cell? (((⟨bo, fo, po⟩ : Addr).add (k * 9)).add 7) = _ by rw [Addr.add_add]; exact hco _ _ (flatR_at l k hlt 7 (by omega)))
      have r8 : wr.cell? ⟨((⟨bo, fo, po⟩ : Addr).add (k * 9)).block, ((⟨bo, fo, po⟩ : Addr).add (k * 9)).off + 8, none⟩ = some (.int .u8 (l[k]).player) := (show wr.cell? (((⟨bo, fo, po⟩ : Addr).add (k * 9)).add 8) = _ by rw [Addr.add_add]; exact hco _ _ (flatR_at l k hlt 8 (by omega)))
      have hpt := Lib.hid (putsL_take l k hlt)
      have HM := Lib.hid (hm _ (List.getElem_mem hlt))
      clear hco
      generalize l[k] = r at *
      have HP := Lib.hid (put_calls r HM.out wr)
      have HFp := Lib.hid (fun W (HW : Lay W) => c_fput r.text (by have := @text_len r; omega) W HW)
      go_wp2_with fail
      refine HP.out.mono ?_
      rintro e w1 ⟨rfl, hB1⟩
      have HB1 := Lib.hid (HB.out.trans (hB1.mono HB.out.size))
      clear hB1 HP HB r0 r1 r2 r3 r4 r5 r6 r7 r8
      go_wp2_with fail
      refine (HFp.out w1 (Crc.laid_below HLy.out HB1.out)).mono ?_
      rintro e w2 ⟨rfl, hB2⟩
      have HB2 := Lib.hid (HB1.out.trans (hB2.mono HB1.out.size))
      clear hB2 HFp
      have hcat : ¬ 9223372036854775807 < (bs (putsL (l.take k))).size + (bs (frameL r.text)).size := by
        rw [bs_size, bs_size, frameL_len]
        have h1 := putsL_le (l.take k)
        have h2 := @text_len r
        rw [List.length_take] at h1
        omega
      go_wp2
      exact ⟨⟨k + 1, by omega, by go_num, by rw [hpt.out, ← bs_append]; rfl, HB2.out⟩, by simp [intOf]; omega⟩
    · have hltb : decide ((k : Int) < (l.length : Int)) = false := decide_eq_false (by omega)
      have hkl : k = l.length := by omega
      subst hkl
      go_wp2
      go_ret
      exact ⟨by simp only [List.take_length]; rfl, HB.out⟩
end Go.Proofs.YtnhjhaphfdlkfaaDoor.Sg
/- The document's Same, the law's their. -/
set_option linter.unusedVariables false
set_option linter.unusedSimpArgs false
namespace Go.Proofs.YtnhjhaphfdlkfaaDoor.Sg
open Go.RowKit Go.Proofs.YtnhjhaphfdlkfaaDoor.HF Go.Proofs.YtnhjhaphfdlkfaaDoor.SB Go.Proofs.YtnhjhaphfdlkfaaDoorW.PrintWords Go.Proofs.YtnhjhaphfdlkfaaDoorW.PrintLast Go.Proofs.YtnhjhaphfdlkfaaDoorW.PrintMore
section
variable {P : Program} {ops : Array Oper} {rest : List Oper} {o : Oper} {a : Act} {Q : Exit → Act → World → Prop} {W : World}
theorem gate_app {t : TypeId} {s x : Tmp} (_ho : o.op = .call { callee := .builtin .append, args := #[.tmp s, .tmp x], argTypes := #[t, t] }) (h : wpList P ops Q (o :: rest) a W) : wpList P ops Q (o :: rest) a W := h
/-- append onto a row that may begin inside its block, in a plain region. -/
theorem q_app_list (base : Nat) (hgd : o.guard = none) (s x : Operand) (t e : TypeId) (z : Value) (size bytes : Nat)
    (ho : o.op = .call { callee := .builtin .append, args := #[s, x], argTypes := #[t, t] })
    (ht : P.underlying t = some (.slice e)) (hinfo : (P.info? e).map (fun i => (i.zero, i.size, i.bytes)) = some (some z, size, bytes)) (hz : z.cells.size = size) (hs0 : 0 < size) (hb0 : 0 < bytes)
    (v : Value) (n : Nat) (xs : List Value) (A : Addr) (m c : Nat) (news : List Value) (hs : a.eval s = v) (hx : a.eval x = .slice (some A) m c) (hm : 0 < m) (hys : news.length = m * size) (hnews : ∀ j u, news[j]? = some u → W.cell? (A.add j) = some u) (h1 : ∀ u ∈ news, u.oneCell' = true)
    (HO : QRow W base e size v n xs) (hbase : base ≤ W.heap.size) (hl : (n + m) * bytes ≤ 140737488355328)
    (h : ∀ v1 w1, QRow w1 base e size v1 (n + m) (xs ++ news) → W.grownBy w1 v.ownBlock → (v1.ownBlock = v.ownBlock ∨ ∃ b, v1.ownBlock = some b ∧ W.heap.size ≤ b) → wpList P ops Q rest (a.put o.dst v1) w1) :
    wpList P ops Q (o :: rest) a W := by
  refine wpList_plain hgd fun K hK => ?_
  obtain ⟨i0, hi, hzz⟩ := Option.map_eq_some_iff.1 hinfo
  simp only [Prod.mk.injEq] at hzz
  obtain ⟨hz0, hz1, hz2⟩ := hzz
  have hlen : n + m ≤ 140737488355328 := Nat.le_trans (Nat.le_mul_of_pos_right _ hb0) hl
  obtain ⟨v1, w1, hr, hown, hg, hat⟩ := q_append (P := P) W base t o.type e i0 z size bytes ht hi hz0 hz1 hz2 hz hs0 v n xs HO A m c news hys hnews h1 hm (by simp only [maxLen]; omega) hl hbase
  unfold Oper.wp execOp
  simp only [ho, resolve, invoke, builtin, Sem.run_bind, Sem.run_pure, Result.andThen_ok, List.map_toArray, List.map_cons, List.map_nil, hs, hx, hr]
  exact hK _ _ (h v1 w1 hown hg hat)
end
end Go.Proofs.YtnhjhaphfdlkfaaDoor.Sg
/- Records fed to a scanner that starts, in plain words; the law's example. -/
set_option linter.unusedVariables false
set_option linter.unusedSimpArgs false
namespace Go.Proofs.YtnhjhaphfdlkfaaDoor.Sg
open Go.RowKit Go.Proofs.YtnhjhaphfdlkfaaDoor.HF Go.Proofs.YtnhjhaphfdlkfaaDoor.SB
theorem stake_more {n : Int} {x x1 : Sc} {r : Rec} (h : stakeS n x r = (x1, 0)) (hb : x.begun = true) : x1.head = x.head ∧ x1.l = x.l ++ [r] ∧ x1.begun = true ∧ r.kind ≠ 3 ∧
    (if r.kind = 2 then x.owned ≠ [] ∧ r.frame = x.count ∧ x.owned.head? = some (r.pair x.head.player) ∧ x1.count = x.count + 1 ∧ x1.owned = x.owned.tail
     else x.owned.length < 12 ∧ r.frame ≠ 18446744073709551615 ∧ r.frame = x.count + x.owned.length ∧ x1.count = x.count ∧ x1.owned = x.owned ++ [r.own]) := by
  unfold stakeS at h
  by_cases h3 : r.kind = 3
  · rw [if_pos h3] at h
    unfold beginS at h
    rw [if_pos (Or.inl hb)] at h
    cases h
  · rw [if_neg h3] at h
    by_cases h2 : r.kind = 2
    · rw [if_pos h2] at h ⊢
      unfold sureS at h
      cases ho : x.owned with
      | nil => rw [ho] at h; cases h
      | cons o os =>
        rw [ho] at h
        simp only at h
        by_cases hc : x.begun = true ∧ r.frame = x.count
        · rw [if_pos hc] at h
          by_cases hp : r.pair x.head.player = o
          · rw [if_pos hp] at h
            cases h
            exact ⟨rfl, rfl, hb, h3, by simp, hc.2, by simp [hp], rfl, rfl⟩
          · rw [if_neg hp] at h; cases h
        · rw [if_neg hc] at h; cases h
    · rw [if_neg h2] at h ⊢
      unfold ownS at h
      by_cases hc : x.begun = true ∧ x.owned.length < 12 ∧ r.frame ≠ 18446744073709551615 ∧ r.frame = x.count + x.owned.length
      · rw [if_pos hc] at h
        cases h
        exact ⟨rfl, rfl, hb, h3, hc.2.1, hc.2.2.1, hc.2.2.2, rfl, rfl⟩
      · rw [if_neg hc] at h; cases h
theorem feed_more {n : Int} {x y : Sc} {l : List Rec} (h : Feed n x l y) (hb : x.begun = true) : y.head = x.head ∧ y.l = x.l ++ l ∧ y.begun = true := by
  induction h with
  | nil => exact ⟨rfl, by simp, hb⟩
  | cons h1 h2 h3 ih =>
    obtain ⟨a1, a2, a3, _⟩ := stake_more h1 hb
    obtain ⟨b1, b2, b3⟩ := ih a3
    exact ⟨b1.trans a1, by rw [b2, a2]; simp, b3⟩
/-- The scanner that has taken a head. -/
def Sc.opened (r : Rec) : Sc := ⟨r, [], true, r.first, []⟩
theorem feed_start {n : Int} {r : Rec} {l : List Rec} {y : Sc} (h : Feed n Sc.start (r :: l) y) : r.kind = 3 ∧ r.seg = n ∧ r.may ∧ Feed n (Sc.opened r) l y ∧ y.head = r ∧ y.l = l ∧ y.begun = true := by
  cases h with
  | @cons _ x1 _ _ _ h1 h2 h3 =>
    have hk : r.kind = 3 ∧ r.seg = n ∧ Sc.opened r = x1 := by
      unfold stakeS at h1
      by_cases hk3 : r.kind = 3
      · rw [if_pos hk3] at h1
        unfold beginS at h1
        by_cases hc : Sc.start.begun = true ∨ r.seg ≠ n
        · rw [if_pos hc] at h1; cases h1
        · rw [if_neg hc] at h1
          cases h1
          exact ⟨hk3, Decidable.not_not.1 (fun h => hc (Or.inr h)), rfl⟩
      · rw [if_neg hk3] at h1
        by_cases h2 : r.kind = 2
        · rw [if_pos h2] at h1; cases h1
        · rw [if_neg h2] at h1
          unfold ownS at h1
          rw [if_neg (fun h => by cases h.1)] at h1
          cases h1
    obtain ⟨a, b, rfl⟩ := hk
    obtain ⟨c1, c2, c3⟩ := feed_more h3 rfl
    exact ⟨a, b, h2, h3, c1, by simpa [Sc.opened] using c2, c3⟩
/-- What is scanned of bytes whose records were put. -/
theorem scan_puts (n : Int) {rs : List Rec} {x' : Sc} (hF : Feed n Sc.start rs x') (k : Nat) (hk : k ≤ (putsL rs).length) :
    ∃ (j : Nat) (xj : Sc), j ≤ rs.length ∧ Feed n Sc.start (rs.take j) xj ∧ (putsL (rs.take j)).length ≤ k ∧ (j < rs.length → k < (putsL (rs.take (j + 1))).length) ∧
      scanG n ((putsL rs).take k) = (xj, (putsL (rs.take j)).length, if (putsL (rs.take j)).length = k ∧ xj.begun = true then 0 else 10) := by
  obtain ⟨j, xj, c1, c2, c3, c4, c5⟩ := scan_cut n hF ((putsL rs).take k) k 0 (((putsL rs).take k).length + 8) (by simp) hk (by rw [List.length_take]; omega) (by rw [List.length_take]; omega)
  refine ⟨j, xj, c1, c2, c3, c4, ?_⟩
  rw [Nat.zero_add] at c5
  exact c5
/-! ### the law's example -/
def exH : Rec := ⟨3, 0, 0, 0, 0, 1, 5, 1, 0⟩
def exO : Rec := ⟨1, 5, 7, 0, 0, 0, 0, 0, 0⟩
def exS : Rec := ⟨2, 5, 0, 7, 9, 0, 0, 0, 0⟩
theorem ex_may : exH.may ∧ exO.may ∧ exS.may := ⟨Or.inr (Or.inr (by decide)), Or.inl (by decide), Or.inr (Or.inl (by decide))⟩
theorem ex_lens : (recB exH).length = 32 ∧ (recB exO).length = 16 ∧ (recB exS).length = 17 := by
  simp [recB_len, Rec.text, Rec.bytes, enc_len, Wr.leBytes_len, exH, exO, exS]
theorem ex_feed : Feed 1 Sc.start [exH, exO, exS] ⟨exH, [exO, exS], true, 6, []⟩ :=
  .cons (x1 := ⟨exH, [], true, 5, []⟩) rfl ex_may.1 (.cons (x1 := ⟨exH, [exO], true, 5, [7]⟩) rfl ex_may.2.1 (.cons rfl ex_may.2.2 (.nil _)))
theorem ex_size : (putsL [exH, exO, exS]).length = 65 := by
  simp [putsL, ex_lens]
theorem ex_whole : ∃ x : Sc, scanG 1 (putsL [exH, exO, exS]) = (x, 65, 0) ∧ x.head = exH ∧ x.l.length = 2 := by
  obtain ⟨j, xj, c1, c2, c3, c4, c5⟩ := scan_puts 1 ex_feed _ (Nat.le_refl _)
  rw [List.take_length] at c5
  have hj : j = 3 := by
    rw [ex_size] at c4
    match j, c1 with
    | 0, _ => have := c4 (by simp); simp [putsL, ex_lens] at this
    | 1, _ => have := c4 (by simp); simp [putsL, ex_lens] at this
    | 2, _ => have := c4 (by simp); simp [putsL, ex_lens] at this
    | 3, _ => rfl
    | j + 4, h => simp at h
  subst hj
  have hf := feed_start c2
  have e : (putsL (List.take 3 [exH, exO, exS])).length = 65 := ex_size
  rw [ex_size, e, if_pos ⟨rfl, hf.2.2.2.2.2.2⟩] at c5
  exact ⟨xj, c5, hf.2.2.2.2.1, by rw [hf.2.2.2.2.2.1]; rfl⟩
theorem ex_torn : ∃ x : Sc, scanG 1 ((putsL [exH, exO, exS]).take 64) = (x, 48, 10) ∧ x.head = exH ∧ x.l.length = 1 := by
  obtain ⟨j, xj, c1, c2, c3, c4, c5⟩ := scan_puts 1 ex_feed 64 (by rw [ex_size]; omega)
  have hj : j = 2 := by
    match j, c1 with
    | 0, _ => have := c4 (by simp); simp [putsL, ex_lens] at this
    | 1, _ => have := c4 (by simp); simp [putsL, ex_lens] at this
    | 2, _ => rfl
    | 3, _ => simp [putsL, ex_lens] at c3
    | j + 4, h => simp at h
  subst hj
  have hf := feed_start c2
  have e : (putsL (List.take 2 [exH, exO, exS])).length = 48 := by simp [putsL, ex_lens]
  rw [e, if_neg (by simp)] at c5
  exact ⟨xj, c5, hf.2.2.2.2.1, by rw [hf.2.2.2.2.2.1]; rfl⟩
theorem ex_none : scanG 1 [] = (Sc.start, 0, 10) := rfl
end Go.Proofs.YtnhjhaphfdlkfaaDoor.Sg
/- The laws' is, works. -/
set_option linter.unusedVariables false
set_option linter.unusedSimpArgs false
namespace Go.Proofs.YtnhjhaphfdlkfaaDoor.Sg
open Go.RowKit Go.Proofs.YtnhjhaphfdlkfaaDoor.HF Go.Proofs.YtnhjhaphfdlkfaaDoor.SB Go.Proofs.YtnhjhaphfdlkfaaDoorW.PrintWords Go.Proofs.YtnhjhaphfdlkfaaDoorW.PrintLast Go.Proofs.YtnhjhaphfdlkfaaDoorW.PrintMore
theorem eql_op51 {o : Oper} {a : Act} (hg : o.guard = o.guard) (x y : Operand) (ho : o.op = .binOp .eql 51 x y 51) (A B : Rec) (hx : a.eval x = A.val) (hy : a.eval y = B.val) (w : World) : (execOp a.eval o).run Tryd.prog w = .ok (.value (.bool (decide (A = B)))) w := by
  unfold execOp
  simp only [ho, hx, hy, Sem.run_bind, guard51, eql51, Result.andThen_ok, Sem.run_pure]
set_option maxHeartbeats 2000000 in
set_option maxRecDepth 100000 in
theorem is_neg (w : World) (HL : Lay w) (b : List UInt8) (hb : b.length ≤ 100000) (many want : Int) (hm : many < 0) (x : Sc) (hs : scanG 1 b = (x, 0, want)) (hx : x.head = Rec.zero) (hl : x.l = []) :
    Calls Tryd.prog 46 #[.string (bs b), .int .i64 many, .int .i64 want] w fun e w' => e = .returned (.bool true) ∧ Below w.heap.size w w' := by
  have hsc := scan_calls w 1 b hb HL
  rw [hs, hx, hl] at hsc
  have HSc := Lib.hid hsc
  have dm : decide (many < 0) = true := decide_eq_true hm
  have heq := fun w' => eqA51 9997 w' Rec.zero Rec.zero
  rw [show decide (Rec.zero = Rec.zero) = true from decide_eq_true rfl] at heq
  simp only [Rec.val, Rec.cells, Rec.zero] at heq
  clear hsc hs hx hl hm HL
  go_enter Tryd.func46, Tryd.ntmps46
  go_wp2_with fail
  refine HSc.out.mono ?_
  rintro e w1 ⟨vl, rfl, hq, hB1⟩
  obtain ⟨Al, cl, rfl, _⟩ := q_slice hq
  have HB1 := Lib.hid hB1
  have HZ1 := Lib.hid (heap_alloc_new w1 (.cells Rec.zero.cells 51))
  clear hB1 hq HSc
  go_wp2_with (first | ((with_reducible refine gate_store (t := 51) (p := 7) rfl ?_); refine store_rec rfl 51 (.tmp 7) (.tmp 14) rfl info51 w1.heap.size 51 Rec.zero Rec.zero rfl rfl HZ1.out ?_; intro w2 hz2 hk2 hb2; have HZ2 := Lib.hid hz2; have HB2 := Lib.hid (hb2 w.heap.size w HB1.out.size (HB1.out.alloc HB1.out.size _)); have s0 : w2.cell? ⟨w1.heap.size, 0, none⟩ = some (.int .i64 0) := blk_cell HZ2.out 0; have s1 : w2.cell? ⟨w1.heap.size, 1, none⟩ = some (.int .u64 0) := blk_cell HZ2.out 1; have s2 : w2.cell? ⟨w1.heap.size, 2, none⟩ = some (.int .u8 0) := blk_cell HZ2.out 2; have s3 : w2.cell? ⟨w1.heap.size, 3, none⟩ = some (.int .u8 0) := blk_cell HZ2.out 3; have s4 : w2.cell? ⟨w1.heap.size, 4, none⟩ = some (.int .u8 0) := blk_cell HZ2.out 4; have s5 : w2.cell? ⟨w1.heap.size, 5, none⟩ = some (.int .u64 0) := blk_cell HZ2.out 5; have s6 : w2.cell? ⟨w1.heap.size, 6, none⟩ = some (.int .u64 0) := blk_cell HZ2.out 6; have s7 : w2.cell? ⟨w1.heap.size, 7, none⟩ = some (.int .u64 0) := blk_cell HZ2.out 7; have s8 : w2.cell? ⟨w1.heap.size, 8, none⟩ = some (.int .u8 0) := blk_cell HZ2.out 8; clear hz2 hk2 hb2))
  go_ret
  exact ⟨rfl, HB2.out⟩
set_option maxHeartbeats 2000000 in
set_option maxRecDepth 100000 in
theorem is_pos (w : World) (HL : Lay w) (b : List UInt8) (hb : b.length ≤ 100000) (m gd : Nat) (want : Int) (x : Sc) (hs : scanG 1 b = (x, gd, want)) (hx : x.head = (⟨3, 0, 0, 0, 0, 1, 5, 1, 0⟩ : Rec)) (hl : x.l.length = m) (hgd : gd ≤ b.length) (hw : ((gd : Int) == (b.length : Int)) = (want == 0)) :
    Calls Tryd.prog 46 #[.string (bs b), .int .i64 m, .int .i64 want] w fun e w' => e = .returned (.bool true) ∧ Below w.heap.size w w' := by
  have hsc := scan_calls w 1 b hb HL
  subst hl
  rw [hs, hx] at hsc
  have HSc := Lib.hid hsc
  have dm : decide ((x.l.length : Int) < 0) = false := decide_eq_false (by omega)
  have HGl := Lib.hid hgd
  generalize hbq : (want == 0) = bq at hw
  have HQ1 := Lib.hid hw
  have HQ2 := Lib.hid hbq
  clear hsc hs hx hgd HL hw hbq
  go_enter Tryd.func46, Tryd.ntmps46
  go_wp2_with fail
  refine HSc.out.mono ?_
  rintro e w1 ⟨vl, rfl, hq, hB1⟩
  obtain ⟨Al, cl, rfl, _⟩ := q_slice hq
  have HB1 := Lib.hid hB1
  have HZ1 := Lib.hid (heap_alloc_new w1 (.cells Rec.zero.cells 51))
  clear hB1 hq HSc
  go_wp2_with (first | ((with_reducible refine gate_store (t := 51) (p := 7) rfl ?_); refine store_rec rfl 51 (.tmp 7) (.tmp 14) rfl info51 w1.heap.size 51 (⟨3, 0, 0, 0, 0, 1, 5, 1, 0⟩ : Rec) Rec.zero rfl rfl HZ1.out ?_; intro w2 hz2 hk2 hb2; have HZ2 := Lib.hid hz2; have HB2 := Lib.hid (hb2 w.heap.size w HB1.out.size (HB1.out.alloc HB1.out.size _)); have s0 : w2.cell? ⟨w1.heap.size, 0, none⟩ = some (.int .i64 3) := blk_cell HZ2.out 0; have s1 : w2.cell? ⟨w1.heap.size, 1, none⟩ = some (.int .u64 0) := blk_cell HZ2.out 1; have s2 : w2.cell? ⟨w1.heap.size, 2, none⟩ = some (.int .u8 0) := blk_cell HZ2.out 2; have s3 : w2.cell? ⟨w1.heap.size, 3, none⟩ = some (.int .u8 0) := blk_cell HZ2.out 3; have s4 : w2.cell? ⟨w1.heap.size, 4, none⟩ = some (.int .u8 0) := blk_cell HZ2.out 4; have s5 : w2.cell? ⟨w1.heap.size, 5, none⟩ = some (.int .u64 1) := blk_cell HZ2.out 5; have s6 : w2.cell? ⟨w1.heap.size, 6, none⟩ = some (.int .u64 5) := blk_cell HZ2.out 6; have s7 : w2.cell? ⟨w1.heap.size, 7, none⟩ = some (.int .u64 1) := blk_cell HZ2.out 7; have s8 : w2.cell? ⟨w1.heap.size, 8, none⟩ = some (.int .u8 0) := blk_cell HZ2.out 8; clear hz2 hk2 hb2))
  clear s0 s1 s2 s3 s4 s5 s6 s7 s8
  refine start_ (n := 30) (S := (fun w' => w'.cell? ⟨w1.heap.size, 0, none⟩ = some (.int .i64 3) ∧ w'.cell? ⟨w1.heap.size, 1, none⟩ = some (.int .u64 0) ∧ w'.cell? ⟨w1.heap.size, 2, none⟩ = some (.int .u8 0) ∧ w'.cell? ⟨w1.heap.size, 3, none⟩ = some (.int .u8 0) ∧ w'.cell? ⟨w1.heap.size, 4, none⟩ = some (.int .u8 0) ∧ w'.cell? ⟨w1.heap.size, 5, none⟩ = some (.int .u64 1) ∧ w'.cell? ⟨w1.heap.size, 6, none⟩ = some (.int .u64 5) ∧ w'.cell? ⟨w1.heap.size, 7, none⟩ = some (.int .u64 1) ∧ w'.cell? ⟨w1.heap.size, 8, none⟩ = some (.int .u8 0))) (ds := []) #[false, false, false, false, false, false, false, false, false, false, false, false, false, false, false, false, false, false, false, false, false, false, false, false, false, false, false, false, false, false] (by kernel_rfl) rfl rfl ⟨blk_cell HZ2.out 0, blk_cell HZ2.out 1, blk_cell HZ2.out 2, blk_cell HZ2.out 3, blk_cell HZ2.out 4, blk_cell HZ2.out 5, blk_cell HZ2.out 6, blk_cell HZ2.out 7, blk_cell HZ2.out 8⟩ (fun hHeld => ?_)
  have HBd := Lib.hid (pw_below_drewN HB2.out 1)
  rw [show w2.drewN 1 = w2.drew from rfl] at HBd
  refine take_ (i := 0) (N := some 37) (v := ?_) (a' := ?_) #[true, false, false, false, false, false, false, false, false, false, false, false, false, false, false, false, false, false, false, false, false, false, false, false, false, false, false, false, false, false] rfl rfl (by kernel_rfl) (fun _ _ _ h => h) (Or.inl ⟨by rfl, ?_⟩) hHeld ?_ ?_
  rotate_left
  · rintro w' ⟨s0, s1, s2, s3, s4, s5, s6, s7, s8⟩
    go_simp
    with_reducible rfl
  rotate_left
  · simp only [Act.put, List.setIfInBounds_toArray, List.set_cons_zero, List.set_cons_succ, i64_w, i32_w]
    rfl
  refine one_ (i := 1) (N := some 38) #[true, true, false, false, false, false, false, false, false, false, false, false, false, false, false, false, false, false, false, false, false, false, false, false, false, false, false, false, false, false] rfl rfl (by kernel_rfl) (by decide) (fun K hK => ?_)
  refine goes_ Tryd.func43 (by kernel_rfl) rfl #[.int .u64 1, .int .u64 5] (by rfl) rfl rfl (by simp only [List.map_toArray, List.map_cons, List.map_nil]; rfl) ?_
  refine (lhead_calls w2.drew w2.drew.heap.size (Nat.le_refl _) 1 5).mono ?_
  rintro e w3 ⟨rfl, hB3⟩
  have HB3 := Lib.hid (HBd.out.trans (hB3.mono HBd.out.size))
  have HZ3 := Lib.hid ((hB3.block _ (blk_lt HZ2.out)).trans HZ2.out)
  clear hB3 hHeld
  refine ⟨_, rfl, ?_⟩
  refine hK.out _ _ ⟨blk_cell HZ3.out 0, blk_cell HZ3.out 1, blk_cell HZ3.out 2, blk_cell HZ3.out 3, blk_cell HZ3.out 4, blk_cell HZ3.out 5, blk_cell HZ3.out 6, blk_cell HZ3.out 7, blk_cell HZ3.out 8⟩ (fun hHeld => ?_)
  clear hK K
  refine norm_ (a' := ?_) ?_ ?_
  rotate_left
  · show Act.put _ (some 38) _ = _
    simp only [Act.put, List.setIfInBounds_toArray, List.set_cons_zero, List.set_cons_succ, i64_w, i32_w]
    rfl
  refine pure_ (i := 2) (N := some 39) (v := .bool true) (a' := ?aa2) #[true, true, true, false, false, false, false, false, false, false, false, false, false, false, false, false, false, false, false, false, false, false, false, false, false, false, false, false, false, false] rfl rfl (by kernel_rfl) (fun _ _ _ h => h) (Or.inl ⟨by rfl, fun w' => (eql_op51 rfl (.tmp 37) (.tmp 38) rfl (⟨3, 0, 0, 0, 0, 1, 5, 1, 0⟩ : Rec) (⟨3, 0, 0, 0, 0, 1, 5, 1, 0⟩ : Rec) rfl rfl w').trans rfl⟩) ?ha2 ?hm2
  case ha2 => simp only [Act.put, List.setIfInBounds_toArray, List.set_cons_zero, List.set_cons_succ, i64_w, i32_w]; rfl
  refine pure_ (i := 3) (N := some 40) (v := ?_) (a' := ?_) #[true, true, true, true, false, false, false, false, false, false, false, false, false, false, false, false, false, false, false, false, false, false, false, false, false, false, false, false, false, false] rfl rfl (by kernel_rfl) (fun _ _ _ h => h) (Or.inl ⟨by rfl, ?_⟩) ?_ ?_
  rotate_left
  · intro w'
    go_simp
    with_reducible rfl
  rotate_left
  · simp only [Act.put, List.setIfInBounds_toArray, List.set_cons_zero, List.set_cons_succ, i64_w, i32_w]
    rfl
  refine pure_ (i := 4) (N := some 41) (v := ?_) (a' := ?_) #[true, true, true, true, true, false, false, false, false, false, false, false, false, false, false, false, false, false, false, false, false, false, false, false, false, false, false, false, false, false] rfl rfl (by kernel_rfl) (fun _ _ _ h => h) (Or.inl ⟨by rfl, ?_⟩) ?_ ?_
  rotate_left
  · intro w'
    go_simp
    with_reducible rfl
  rotate_left
  · simp only [Act.put, List.setIfInBounds_toArray, List.set_cons_zero, List.set_cons_succ, i64_w, i32_w]
    rfl
  refine pure_ (i := 5) (N := some 42) (v := ?_) (a' := ?_) #[true, true, true, true, true, true, false, false, false, false, false, false, false, false, false, false, false, false, false, false, false, false, false, false, false, false, false, false, false, false] rfl rfl (by kernel_rfl) (fun _ _ _ h => h) (Or.inl ⟨by rfl, ?_⟩) ?_ ?_
  rotate_left
  · intro w'
    go_simp
    with_reducible rfl
  rotate_left
  · simp only [Act.put, List.setIfInBounds_toArray, List.set_cons_zero, List.set_cons_succ, i64_w, i32_w]
    rfl
  refine pure_ (i := 6) (N := some 43) (v := ?_) (a' := ?_) #[true, true, true, true, true, true, true, false, false, false, false, false, false, false, false, false, false, false, false, false, false, false, false, false, false, false, false, false, false, false] rfl rfl (by kernel_rfl) (fun _ _ _ h => h) (Or.inl ⟨by rfl, ?_⟩) ?_ ?_
  rotate_left
  · intro w'
    go_simp
    with_reducible rfl
  rotate_left
  · simp only [Act.put, List.setIfInBounds_toArray, List.set_cons_zero, List.set_cons_succ, i64_w, i32_w]
    rfl
  refine pure_ (i := 7) (N := some 44) (v := .bool true) (a' := ?aa7) #[true, true, true, true, true, true, true, true, false, false, false, false, false, false, false, false, false, false, false, false, false, false, false, false, false, false, false, false, false, false] rfl rfl (by kernel_rfl) (fun _ _ _ h => h) (Or.inl ⟨by rfl, fun w' => by go_simp⟩) ?ha7 ?hm7
  case ha7 => simp only [Act.put, List.setIfInBounds_toArray, List.set_cons_zero, List.set_cons_succ, i64_w, i32_w]; rfl
  refine pure_ (i := 8) (N := some 45) (v := ?_) (a' := ?_) #[true, true, true, true, true, true, true, true, true, false, false, false, false, false, false, false, false, false, false, false, false, false, false, false, false, false, false, false, false, false] rfl rfl (by kernel_rfl) (fun _ _ _ h => h) (Or.inl ⟨by rfl, ?_⟩) ?_ ?_
  rotate_left
  · intro w'
    go_simp
    with_reducible rfl
  rotate_left
  · simp only [Act.put, List.setIfInBounds_toArray, List.set_cons_zero, List.set_cons_succ, i64_w, i32_w]
    rfl
  refine pure_ (i := 9) (N := some 46) (v := ?_) (a' := ?_) #[true, true, true, true, true, true, true, true, true, true, false, false, false, false, false, false, false, false, false, false, false, false, false, false, false, false, false, false, false, false] rfl rfl (by kernel_rfl) (fun _ _ _ h => h) (Or.inl ⟨by rfl, ?_⟩) ?_ ?_
  rotate_left
  · intro w'
    go_simp
    with_reducible rfl
  rotate_left
  · simp only [Act.put, List.setIfInBounds_toArray, List.set_cons_zero, List.set_cons_succ, i64_w, i32_w]
    rfl
  refine pure_ (i := 10) (N := some 47) (v := ?_) (a' := ?_) #[true, true, true, true, true, true, true, true, true, true, true, false, false, false, false, false, false, false, false, false, false, false, false, false, false, false, false, false, false, false] rfl rfl (by kernel_rfl) (fun _ _ _ h => h) (Or.inl ⟨by rfl, ?_⟩) ?_ ?_
  rotate_left
  · intro w'
    go_simp
    with_reducible rfl
  rotate_left
  · simp only [Act.put, List.setIfInBounds_toArray, List.set_cons_zero, List.set_cons_succ, i64_w, i32_w]
    rfl
  refine pure_ (i := 11) (N := some 48) (v := ?_) (a' := ?_) #[true, true, true, true, true, true, true, true, true, true, true, true, false, false, false, false, false, false, false, false, false, false, false, false, false, false, false, false, false, false] rfl rfl (by kernel_rfl) (fun _ _ _ h => h) (Or.inl ⟨by rfl, ?_⟩) ?_ ?_
  rotate_left
  · intro w'
    go_simp
    with_reducible rfl
  rotate_left
  · simp only [Act.put, List.setIfInBounds_toArray, List.set_cons_zero, List.set_cons_succ, i64_w, i32_w]
    rfl
  refine pure_ (i := 12) (N := some 49) (v := ?_) (a' := ?_) #[true, true, true, true, true, true, true, true, true, true, true, true, true, false, false, false, false, false, false, false, false, false, false, false, false, false, false, false, false, false] rfl rfl (by kernel_rfl) (fun _ _ _ h => h) (Or.inl ⟨by rfl, ?_⟩) ?_ ?_
  rotate_left
  · intro w'
    go_simp
    with_reducible rfl
  rotate_left
  · simp only [Act.put, List.setIfInBounds_toArray, List.set_cons_zero, List.set_cons_succ, i64_w, i32_w]
    rfl
  refine pure_ (i := 13) (N := some 50) (v := .bool true) (a' := ?aa13) #[true, true, true, true, true, true, true, true, true, true, true, true, true, true, false, false, false, false, false, false, false, false, false, false, false, false, false, false, false, false] rfl rfl (by kernel_rfl) (fun _ _ _ h => h) (Or.inl ⟨by rfl, fun w' => by go_simp; exact HGl.out⟩) ?ha13 ?hm13
  case ha13 => simp only [Act.put, List.setIfInBounds_toArray, List.set_cons_zero, List.set_cons_succ, i64_w, i32_w]; rfl
  refine pure_ (i := 14) (N := some 51) (v := ?_) (a' := ?_) #[true, true, true, true, true, true, true, true, true, true, true, true, true, true, true, false, false, false, false, false, false, false, false, false, false, false, false, false, false, false] rfl rfl (by kernel_rfl) (fun _ _ _ h => h) (Or.inl ⟨by rfl, ?_⟩) ?_ ?_
  rotate_left
  · intro w'
    go_simp
    with_reducible rfl
  rotate_left
  · simp only [Act.put, List.setIfInBounds_toArray, List.set_cons_zero, List.set_cons_succ, i64_w, i32_w]
    rfl
  refine pure_ (i := 15) (N := some 52) (v := ?_) (a' := ?_) #[true, true, true, true, true, true, true, true, true, true, true, true, true, true, true, true, false, false, false, false, false, false, false, false, false, false, false, false, false, false] rfl rfl (by kernel_rfl) (fun _ _ _ h => h) (Or.inl ⟨by rfl, ?_⟩) ?_ ?_
  rotate_left
  · intro w'
    go_simp
    with_reducible rfl
  rotate_left
  · simp only [Act.put, List.setIfInBounds_toArray, List.set_cons_zero, List.set_cons_succ, i64_w, i32_w]
    rfl
  refine pure_ (i := 16) (N := some 53) (v := ?_) (a' := ?_) #[true, true, true, true, true, true, true, true, true, true, true, true, true, true, true, true, true, false, false, false, false, false, false, false, false, false, false, false, false, false] rfl rfl (by kernel_rfl) (fun _ _ _ h => h) (Or.inl ⟨by rfl, ?_⟩) ?_ ?_
  rotate_left
  · intro w'
    go_simp
    with_reducible rfl
  rotate_left
  · simp only [Act.put, List.setIfInBounds_toArray, List.set_cons_zero, List.set_cons_succ, i64_w, i32_w]
    rfl
  refine pure_ (i := 17) (N := some 54) (v := ?_) (a' := ?_) #[true, true, true, true, true, true, true, true, true, true, true, true, true, true, true, true, true, true, false, false, false, false, false, false, false, false, false, false, false, false] rfl rfl (by kernel_rfl) (fun _ _ _ h => h) (Or.inl ⟨by rfl, ?_⟩) ?_ ?_
  rotate_left
  · intro w'
    go_simp
    with_reducible rfl
  rotate_left
  · simp only [Act.put, List.setIfInBounds_toArray, List.set_cons_zero, List.set_cons_succ, i64_w, i32_w]
    rfl
  refine pure_ (i := 18) (N := some 55) (v := ?_) (a' := ?_) #[true, true, true, true, true, true, true, true, true, true, true, true, true, true, true, true, true, true, true, false, false, false, false, false, false, false, false, false, false, false] rfl rfl (by kernel_rfl) (fun _ _ _ h => h) (Or.inl ⟨by rfl, ?_⟩) ?_ ?_
  rotate_left
  · intro w'
    go_simp
    with_reducible rfl
  rotate_left
  · simp only [Act.put, List.setIfInBounds_toArray, List.set_cons_zero, List.set_cons_succ, i64_w, i32_w]
    rfl
  refine pure_ (i := 19) (N := some 56) (v := .bool bq) (a' := ?aa19) #[true, true, true, true, true, true, true, true, true, true, true, true, true, true, true, true, true, true, true, true, false, false, false, false, false, false, false, false, false, false] rfl rfl (by kernel_rfl) (fun _ _ _ h => h) (Or.inl ⟨by rfl, fun w' => by go_simp; exact HQ1.out⟩) ?ha19 ?hm19
  case ha19 => simp only [Act.put, List.setIfInBounds_toArray, List.set_cons_zero, List.set_cons_succ, i64_w, i32_w]; rfl
  refine pure_ (i := 20) (N := some 57) (v := ?_) (a' := ?_) #[true, true, true, true, true, true, true, true, true, true, true, true, true, true, true, true, true, true, true, true, true, false, false, false, false, false, false, false, false, false] rfl rfl (by kernel_rfl) (fun _ _ _ h => h) (Or.inl ⟨by rfl, ?_⟩) ?_ ?_
  rotate_left
  · intro w'
    go_simp
    with_reducible rfl
  rotate_left
  · simp only [Act.put, List.setIfInBounds_toArray, List.set_cons_zero, List.set_cons_succ, i64_w, i32_w]
    rfl
  refine pure_ (i := 21) (N := some 58) (v := .bool bq) (a' := ?aa21) #[true, true, true, true, true, true, true, true, true, true, true, true, true, true, true, true, true, true, true, true, true, true, false, false, false, false, false, false, false, false] rfl rfl (by kernel_rfl) (fun _ _ _ h => h) (Or.inl ⟨by rfl, fun w' => by go_simp; exact HQ2.out⟩) ?ha21 ?hm21
  case ha21 => simp only [Act.put, List.setIfInBounds_toArray, List.set_cons_zero, List.set_cons_succ, i64_w, i32_w]; rfl
  refine pure_ (i := 22) (N := some 59) (v := .bool true) (a' := ?aa22) #[true, true, true, true, true, true, true, true, true, true, true, true, true, true, true, true, true, true, true, true, true, true, true, false, false, false, false, false, false, false] rfl rfl (by kernel_rfl) (fun _ _ _ h => h) (Or.inl ⟨by rfl, fun w' => by go_simp⟩) ?ha22 ?hm22
  case ha22 => simp only [Act.put, List.setIfInBounds_toArray, List.set_cons_zero, List.set_cons_succ, i64_w, i32_w]; rfl
  refine pure_ (i := 23) (N := some 60) (v := ?_) (a' := ?_) #[true, true, true, true, true, true, true, true, true, true, true, true, true, true, true, true, true, true, true, true, true, true, true, true, false, false, false, false, false, false] rfl rfl (by kernel_rfl) (fun _ _ _ h => h) (Or.inl ⟨by rfl, ?_⟩) ?_ ?_
  rotate_left
  · intro w'
    go_simp
    with_reducible rfl
  rotate_left
  · simp only [Act.put, List.setIfInBounds_toArray, List.set_cons_zero, List.set_cons_succ, i64_w, i32_w]
    rfl
  refine pure_ (i := 24) (N := some 61) (v := ?_) (a' := ?_) #[true, true, true, true, true, true, true, true, true, true, true, true, true, true, true, true, true, true, true, true, true, true, true, true, true, false, false, false, false, false] rfl rfl (by kernel_rfl) (fun _ _ _ h => h) (Or.inl ⟨by rfl, ?_⟩) ?_ ?_
  rotate_left
  · intro w'
    go_simp
    with_reducible rfl
  rotate_left
  · simp only [Act.put, List.setIfInBounds_toArray, List.set_cons_zero, List.set_cons_succ, i64_w, i32_w]
    rfl
  refine pure_ (i := 25) (N := some 62) (v := ?_) (a' := ?_) #[true, true, true, true, true, true, true, true, true, true, true, true, true, true, true, true, true, true, true, true, true, true, true, true, true, true, false, false, false, false] rfl rfl (by kernel_rfl) (fun _ _ _ h => h) (Or.inl ⟨by rfl, ?_⟩) ?_ ?_
  rotate_left
  · intro w'
    go_simp
    with_reducible rfl
  rotate_left
  · simp only [Act.put, List.setIfInBounds_toArray, List.set_cons_zero, List.set_cons_succ, i64_w, i32_w]
    rfl
  refine pure_ (i := 26) (N := some 63) (v := ?_) (a' := ?_) #[true, true, true, true, true, true, true, true, true, true, true, true, true, true, true, true, true, true, true, true, true, true, true, true, true, true, true, false, false, false] rfl rfl (by kernel_rfl) (fun _ _ _ h => h) (Or.inl ⟨by rfl, ?_⟩) ?_ ?_
  rotate_left
  · intro w'
    go_simp
    with_reducible rfl
  rotate_left
  · simp only [Act.put, List.setIfInBounds_toArray, List.set_cons_zero, List.set_cons_succ, i64_w, i32_w]
    rfl
  refine pure_ (i := 27) (N := some 64) (v := .bool true) (a' := ?aa27) #[true, true, true, true, true, true, true, true, true, true, true, true, true, true, true, true, true, true, true, true, true, true, true, true, true, true, true, true, false, false] rfl rfl (by kernel_rfl) (fun _ _ _ h => h) (Or.inl ⟨by rfl, fun w' => by go_simp⟩) ?ha27 ?hm27
  case ha27 => simp only [Act.put, List.setIfInBounds_toArray, List.set_cons_zero, List.set_cons_succ, i64_w, i32_w]; rfl
  refine pure_ (i := 28) (N := some 65) (v := ?_) (a' := ?_) #[true, true, true, true, true, true, true, true, true, true, true, true, true, true, true, true, true, true, true, true, true, true, true, true, true, true, true, true, true, false] rfl rfl (by kernel_rfl) (fun _ _ _ h => h) (Or.inl ⟨by rfl, ?_⟩) ?_ ?_
  rotate_left
  · intro w'
    go_simp
    with_reducible rfl
  rotate_left
  · simp only [Act.put, List.setIfInBounds_toArray, List.set_cons_zero, List.set_cons_succ, i64_w, i32_w]
    rfl
  refine pure_ (i := 29) (N := some 6) (v := ?_) (a' := ?_) #[true, true, true, true, true, true, true, true, true, true, true, true, true, true, true, true, true, true, true, true, true, true, true, true, true, true, true, true, true, true] rfl rfl (by kernel_rfl) (fun _ _ _ h => h) (Or.inl ⟨by rfl, ?_⟩) ?_ ?_
  rotate_left
  · intro w'
    go_simp
    with_reducible rfl
  rotate_left
  · simp only [Act.put, List.setIfInBounds_toArray, List.set_cons_zero, List.set_cons_succ, i64_w, i32_w]
    rfl
  refine done_ (by kernel_rfl) ?_
  go_wp2
  go_ret
  exact ⟨rfl, HB3.out⟩
end Go.Proofs.YtnhjhaphfdlkfaaDoor.Sg
/- The laws' works. -/
set_option linter.unusedVariables false
set_option linter.unusedSimpArgs false
namespace Go.Proofs.YtnhjhaphfdlkfaaDoor.Sg
open Go.RowKit Go.Proofs.YtnhjhaphfdlkfaaDoor.HF Go.Proofs.YtnhjhaphfdlkfaaDoor.SB Go.Proofs.YtnhjhaphfdlkfaaDoorW.PrintWords Go.Proofs.YtnhjhaphfdlkfaaDoorW.PrintLast Go.Proofs.YtnhjhaphfdlkfaaDoorW.PrintMore
/-- A row that lies from the start of a block of its own. -/
theorem q_new (w : World) (base : Nat) (hb : base ≤ w.heap.size) (l : List Rec) (hl : l.length ≤ 100000) : QRow (w.alloc (.cells (flatR l).toArray 51)) base 51 9 (.slice (some ⟨w.heap.size, 0, none⟩) l.length l.length) l.length (flatR l) := by
  refine ⟨flatR_len l, Or.inr ⟨w.heap.size, 0, l.length, (flatR l).toArray, by simp, hb, heap_alloc_new w _, Nat.le_refl _, by simp only [maxLen]; omega, ?_, ?_⟩⟩
  · simp [flatR_len]
  · rw [Nat.zero_mul, List.drop_zero, List.take_of_length_le (by rw [flatR_len]; exact Nat.le_refl _)]
set_option maxHeartbeats 2000000 in
set_option maxRecDepth 100000 in
theorem works_calls (w : World) (HL : Lay w) : Calls Tryd.prog 19 #[] w fun e w' => e = .returned (.bool true) ∧ Below w.heap.size w w' := by
  have HLy := Lib.hid HL
  obtain ⟨x1, hs1, hx1, hl1⟩ := ex_whole
  obtain ⟨x2, hs2, hx2, hl2⟩ := ex_torn
  have hsz := ex_size
  have HMay := Lib.hid (show ∀ r ∈ [exH, exO, exS], r.may by intro r hr; simp at hr; rcases hr with rfl | rfl | rfl; exact ex_may.1; exact ex_may.2.1; exact ex_may.2.2)
  generalize hD : putsL [exH, exO, exS] = D at hs1 hs2 hsz
  have H1 := Lib.hid (fun W (HW : Lay W) => is_pos W HW D (by omega) 2 65 0 x1 hs1 hx1 hl1 (by omega) (by rw [hsz]; rfl))
  have H2 := Lib.hid (fun W (HW : Lay W) => is_pos W HW (D.take 64) (by rw [List.length_take]; omega) 1 48 10 x2 hs2 hx2 hl2 (by rw [List.length_take]; omega) (by rw [List.length_take, hsz]; rfl))
  have H3 := Lib.hid (fun W (HW : Lay W) => is_neg W HW [] (by simp) (-1) 10 (by decide) Sc.start ex_none rfl rfl)
  have hdz : (bs D).size = 65 := by rw [bs_size]; exact hsz
  have hdx : (bs D).extract 0 64 = bs (D.take 64) := by rw [bs_extract]; rfl
  have HP := Lib.hid (fun W base v (HW : Lay W) (h : QRow W base 51 9 v [exH, exO, exS].length (flatR [exH, exO, exS])) => by have := put25_calls W HW base v [exH, exO, exS] h HMay.out (by decide); rw [hD] at this; exact this)
  clear hs1 hx1 hl1 hs2 hx2 hl2 hsz hD HMay HL
  have HQn := Lib.hid (fun W : World => (show QRow (W.alloc (.cells #[.int .i64 3, .int .u64 0, .int .u8 0, .int .u8 0, .int .u8 0, .int .u64 1, .int .u64 5, .int .u64 1, .int .u8 0, .int .i64 1, .int .u64 5, .int .u8 7, .int .u8 0, .int .u8 0, .int .u64 0, .int .u64 0, .int .u64 0, .int .u8 0, .int .i64 2, .int .u64 5, .int .u8 0, .int .u8 7, .int .u8 9, .int .u64 0, .int .u64 0, .int .u64 0, .int .u8 0] 51)) W.heap.size 51 9 (.slice (some ⟨W.heap.size, 0, none⟩) 3 3) [exH, exO, exS].length (flatR [exH, exO, exS]) from q_new W W.heap.size (Nat.le_refl _) [exH, exO, exS] (by decide)))
  have HC1 := Lib.hid (fun W : World => (show Calls Tryd.prog 43 #[.int .u64 1, .int .u64 5] W (fun e w' => e = .returned (.agg #[.int .i64 3, .int .u64 0, .int .u8 0, .int .u8 0, .int .u8 0, .int .u64 1, .int .u64 5, .int .u64 1, .int .u8 0]) ∧ Below W.heap.size W w') from lhead_calls W W.heap.size (Nat.le_refl _) 1 5))
  have HC2 := Lib.hid (fun W : World => (show Calls Tryd.prog 44 #[.int .u64 5, .int .u8 7] W (fun e w' => e = .returned (.agg #[.int .i64 1, .int .u64 5, .int .u8 7, .int .u8 0, .int .u8 0, .int .u64 0, .int .u64 0, .int .u64 0, .int .u8 0]) ∧ Below W.heap.size W w') from lown_calls W W.heap.size (Nat.le_refl _) 5 7))
  have HC3 := Lib.hid (fun W : World => (show Calls Tryd.prog 45 #[.int .u64 5, .int .u8 7, .int .u8 9] W (fun e w' => e = .returned (.agg #[.int .i64 2, .int .u64 5, .int .u8 0, .int .u8 7, .int .u8 9, .int .u64 0, .int .u64 0, .int .u64 0, .int .u8 0]) ∧ Below W.heap.size W w') from lsure_calls W W.heap.size (Nat.le_refl _) 5 7 9))
  go_enter Tryd.func19, Tryd.ntmps19
  go_wp2_with fail
  refine (HC1.out w).mono ?_
  rintro e w1 ⟨rfl, hB1⟩
  have HB1 := Lib.hid hB1
  clear hB1
  go_wp2_with fail
  refine (HC2.out w1).mono ?_
  rintro e w2 ⟨rfl, hB2⟩
  have HB2 := Lib.hid (HB1.out.trans (hB2.mono HB1.out.size))
  clear hB2
  go_wp2_with fail
  refine (HC3.out w2).mono ?_
  rintro e w3 ⟨rfl, hB3⟩
  have HB3 := Lib.hid (HB2.out.trans (hB3.mono HB2.out.size))
  clear hB3
  go_wp2_with fail
  have HB4 := Lib.hid (HB3.out.alloc HB3.out.size (.cells #[.int .i64 3, .int .u64 0, .int .u8 0, .int .u8 0, .int .u8 0, .int .u64 1, .int .u64 5, .int .u64 1, .int .u8 0, .int .i64 1, .int .u64 5, .int .u8 7, .int .u8 0, .int .u8 0, .int .u64 0, .int .u64 0, .int .u64 0, .int .u8 0, .int .i64 2, .int .u64 5, .int .u8 0, .int .u8 7, .int .u8 9, .int .u64 0, .int .u64 0, .int .u64 0, .int .u8 0] 51))
  refine (HP.out (w3.alloc (.cells #[.int .i64 3, .int .u64 0, .int .u8 0, .int .u8 0, .int .u8 0, .int .u64 1, .int .u64 5, .int .u64 1, .int .u8 0, .int .i64 1, .int .u64 5, .int .u8 7, .int .u8 0, .int .u8 0, .int .u64 0, .int .u64 0, .int .u64 0, .int .u8 0, .int .i64 2, .int .u64 5, .int .u8 0, .int .u8 7, .int .u8 9, .int .u64 0, .int .u64 0, .int .u64 0, .int .u8 0] 51)) w3.heap.size _ (Crc.laid_below HLy.out HB4.out) (HQn.out w3)).mono ?_
  rintro e w5 ⟨rfl, hB5⟩
  have HB5 := Lib.hid (HB4.out.trans (hB5.mono HB4.out.size))
  clear hB5 HB1 HB2 HB3 HB4 HP
  go_wp2_with fail
  refine (H1.out w5 (Crc.laid_below HLy.out HB5.out)).mono ?_
  rintro e w6 ⟨rfl, hB6⟩
  have HB6 := Lib.hid (HB5.out.trans (hB6.mono HB5.out.size))
  clear hB6 H1 HB5
  go_wp2_with fail
  refine (H2.out w6 (Crc.laid_below HLy.out HB6.out)).mono ?_
  rintro e w7 ⟨rfl, hB7⟩
  have HB7 := Lib.hid (HB6.out.trans (hB7.mono HB6.out.size))
  clear hB7 H2 HB6
  go_wp2_with fail
  refine (H3.out w7 (Crc.laid_below HLy.out HB7.out)).mono ?_
  rintro e w8 ⟨rfl, hB8⟩
  have HB8 := Lib.hid (HB7.out.trans (hB8.mono HB7.out.size))
  clear hB8 H3 HB7
  go_wp2
  go_ret
  exact ⟨rfl, HB8.out⟩
end Go.Proofs.YtnhjhaphfdlkfaaDoor.Sg
/- SegmentScans, walked. -/
set_option linter.unusedVariables false
set_option linter.unusedSimpArgs false
namespace Go.Proofs.YtnhjhaphfdlkfaaDoor.Sg
open Go.RowKit Go.Proofs.YtnhjhaphfdlkfaaDoor.HF Go.Proofs.YtnhjhaphfdlkfaaDoor.SB Go.Proofs.YtnhjhaphfdlkfaaDoorW.PrintWords Go.Proofs.YtnhjhaphfdlkfaaDoorW.PrintLast Go.Proofs.YtnhjhaphfdlkfaaDoorW.PrintMore
theorem puts_many (l : List Rec) : l.length ≤ (putsL l).length := by
  induction l with
  | nil => simp
  | cons r l ih => rw [putsL, List.length_append, List.length_cons, recB_len]; omega
/-- What is scanned, in short: records that were put, fed. -/
theorem scan_is (n : Int) (b : List UInt8) : ∃ rs, Feed n Sc.start rs (scanG n b).1 ∧ b.take (scanG n b).2.1 = putsL rs ∧ (scanG n b).2.1 ≤ b.length := scan_fed n b (b.length + 8) Sc.start 0 [] (.nil _) (by simp [putsL]) (by omega)
theorem scan_few (n : Int) (b : List UInt8) (h : b.length ≤ 100000) : (scanG n b).1.l.length ≤ 100000 := by
  obtain ⟨rs, h1, h2, h3⟩ := scan_is n b
  have hp := puts_many rs
  rw [← h2, List.length_take] at hp
  generalize (scanG n b).1 = x at h1
  cases rs with
  | nil => cases h1; simp [Sc.start]
  | cons r rs =>
    rw [(feed_start h1).2.2.2.2.2.1]
    rw [List.length_cons] at hp
    omega
end Go.Proofs.YtnhjhaphfdlkfaaDoor.Sg
/- SegmentOrder, walked. -/
set_option linter.unusedVariables false
set_option linter.unusedSimpArgs false
namespace Go.Proofs.YtnhjhaphfdlkfaaDoor.Sg
open Go.RowKit Go.Proofs.YtnhjhaphfdlkfaaDoor.HF Go.Proofs.YtnhjhaphfdlkfaaDoor.SB Go.Proofs.YtnhjhaphfdlkfaaDoorW.PrintWords Go.Proofs.YtnhjhaphfdlkfaaDoorW.PrintLast Go.Proofs.YtnhjhaphfdlkfaaDoorW.PrintMore
theorem Feed.good {n : Int} {x y : Sc} {l : List Rec} (h : Feed n x l y) : x.Good → y.Good := by
  induction h with
  | nil => exact fun h => h
  | cons h1 h2 h3 ih => intro hx; have := good_step hx h2 n; rw [h1] at this; exact ih this
theorem Feed.mays {n : Int} {x y : Sc} {l : List Rec} (h : Feed n x l y) : ∀ r ∈ l, r.may := by
  induction h with
  | nil => intro r hr; simp at hr
  | cons h1 h2 h3 ih => intro r hr; rw [List.mem_cons] at hr; rcases hr with rfl | hr; exact h2; exact ih r hr
structure OrB (w W : World) (b : Nat) (r : Rec) (m : List Rec) (v6 : Value) (own : List Int) (v10 : Value) : Prop where
  hb : W.heap[b]? = some (.cells r.cells 51 (0, 0))
  hq : QRow W w.heap.size 51 9 v6 m.length (flatR m)
  ho : QRow W w.heap.size 47 1 v10 own.length (nums .u8 own)
  below : Below w.heap.size w W
section
variable {w W W1 : World} {b : Nat} {r : Rec} {m : List Rec} {v6 v10 : Value} {own : List Int}
end
end Go.Proofs.YtnhjhaphfdlkfaaDoor.Sg
/- The law's made. -/
set_option linter.unusedVariables false
set_option linter.unusedSimpArgs false
namespace Go.Proofs.YtnhjhaphfdlkfaaDoor.Sg
open Go.RowKit Go.Proofs.YtnhjhaphfdlkfaaDoor.HF Go.Proofs.YtnhjhaphfdlkfaaDoor.SB Go.Proofs.YtnhjhaphfdlkfaaDoorW.PrintWords Go.Proofs.YtnhjhaphfdlkfaaDoorW.PrintLast Go.Proofs.YtnhjhaphfdlkfaaDoorW.PrintMore
structure MdB (w W : World) (b1 b4 : Nat) (pc : Array Value) (r0 : Rec) (rs : List Rec) (v5 : Value) (own : List Int) (v7 : Value) : Prop where
  h1 : W.heap[b1]? = some (.cells pc 64 (0, 0))
  h4 : W.heap[b4]? = some (.cells r0.cells 51 (0, 0))
  q5 : QRow W w.heap.size 51 9 v5 rs.length (flatR rs)
  q7 : QRow W w.heap.size 47 1 v7 own.length (nums .u8 own)
  n4 : v5.ownBlock ≠ some b4
  below : Below w.heap.size w W
section
variable {w W W1 : World} {b1 b4 : Nat} {pc : Array Value} {r0 : Rec} {rs : List Rec} {v5 v7 : Value} {own : List Int}
theorem md_kept (h : MdB w W b1 b4 pc r0 rs v5 own v7) (hk : Kept W W1 (fun _ => False)) (hB : Below w.heap.size w W1) : MdB w W1 b1 b4 pc r0 rs v5 own v7 :=
  ⟨blk_kept h.h1 hk (fun h => h), blk_kept h.h4 hk (fun h => h), q_move h.q5 (fun k e => hk.2 k (q_lt h.q5 k e) (fun h => h)), q_move h.q7 (fun k e => hk.2 k (q_lt h.q7 k e) (fun h => h)), h.n4, hB⟩
theorem md_below (h : MdB w W b1 b4 pc r0 rs v5 own v7) (hB : Below W.heap.size W W1) : MdB w W1 b1 b4 pc r0 rs v5 own v7 := md_kept h (Kept.of_below hB _) (h.below.trans (hB.mono h.below.size))
theorem md_alloc (h : MdB w W b1 b4 pc r0 rs v5 own v7) (ob : Obj) : MdB w (W.alloc ob) b1 b4 pc r0 rs v5 own v7 := md_kept h ((Kept.refl W _).alloc ob) (h.below.alloc h.below.size ob)
theorem md_drew (h : MdB w W b1 b4 pc r0 rs v5 own v7) : MdB w W.drew b1 b4 pc r0 rs v5 own v7 := md_kept h ((Kept.refl W _).drewN 1) (pw_below_drewN h.below 1)
theorem md_app7 (h : MdB w W b1 b4 pc r0 rs v5 own v7) (u : Int) {v2 : Value} (hq : QRow W1 w.heap.size 47 1 v2 (own.length + 1) (nums .u8 own ++ [.int .u8 u])) (hg : W.grownBy W1 v7.ownBlock) : MdB w W1 b1 b4 pc r0 rs v5 (own ++ [u]) v2 := by
  refine ⟨(hg.block b1 (blk_lt h.h1) (fun e => ?_)).trans h.h1, (hg.block b4 (blk_lt h.h4) (fun e => ?_)).trans h.h4, q_other h.q5 h.q7 (by decide) hg, ?_, h.n4, h.below.grown hg h.below.size (fun k hk => (q_typed h.q7 k hk).1)⟩
  · obtain ⟨_, c, hc⟩ := q_typed h.q7 b1 e.symm
    rw [h.h1] at hc; simp at hc
  · obtain ⟨_, c, hc⟩ := q_typed h.q7 b4 e.symm
    rw [h.h4] at hc; simp at hc
  · rw [List.length_append, show nums .u8 (own ++ [u]) = nums .u8 own ++ [.int .u8 u] by simp [nums]]; exact hq
theorem md_app5 (h : MdB w W b1 b4 pc r0 rs v5 own v7) (q : Rec) {v2 : Value} (hq : QRow W1 w.heap.size 51 9 v2 (rs.length + 1) (flatR rs ++ q.cells.toList)) (hg : W.grownBy W1 v5.ownBlock) (hat : v2.ownBlock = v5.ownBlock ∨ ∃ b, v2.ownBlock = some b ∧ W.heap.size ≤ b) : MdB w W1 b1 b4 pc r0 (rs ++ [q]) v2 own v7 := by
  refine ⟨(hg.block b1 (blk_lt h.h1) (fun e => ?_)).trans h.h1, (hg.block b4 (blk_lt h.h4) (fun e => h.n4 e.symm)).trans h.h4, ?_, q_other h.q7 h.q5 (by decide) hg, ?_, h.below.grown hg h.below.size (fun k hk => (q_typed h.q5 k hk).1)⟩
  · obtain ⟨_, c, hc⟩ := q_typed h.q5 b1 e.symm
    rw [h.h1] at hc; simp at hc
  · rw [List.length_append, flatR_append, flatR_one]; exact hq
  · rcases hat with e | ⟨b, e, hb⟩
    · rw [e]; exact h.n4
    · rw [e]
      intro e2
      have := blk_lt h.h4
      cases e2; omega
theorem md_set {b9 : Nat} {cs : Array Value} (h : MdB w W b1 b4 pc r0 rs v5 own v7) (hb : W.heap[b9]? = some (.cells cs 49 (0, 0))) (hge : w.heap.size ≤ b9) (j : Nat) (v : Value) : MdB w (W.setCell ⟨b9, j, none⟩ v) b1 b4 pc r0 rs v5 own v7 := by
  have hk : Kept W (W.setCell ⟨b9, j, none⟩ v) (fun i => i = b9) := Kept.setCell (S := fun i => i = b9) (Kept.refl _ _) (Or.inl rfl) _
  refine ⟨blk_kept h.h1 hk (fun e => ne_types h.h1 hb (by decide) e), blk_kept h.h4 hk (fun e => ne_types h.h4 hb (by decide) e), q_move h.q5 (fun k e => hk.2 k (q_lt h.q5 k e) (fun e2 => ?_)), q_move h.q7 (fun k e => hk.2 k (q_lt h.q7 k e) (fun e2 => ?_)), h.n4, h.below.setCell hge _⟩
  · obtain ⟨_, c, hc⟩ := q_typed h.q5 k e
    rw [e2, hb] at hc; simp at hc
  · obtain ⟨_, c, hc⟩ := q_typed h.q7 k e
    rw [e2, hb] at hc; simp at hc
theorem md_drop {o : Int} {os : List Int} {A : Option Addr} {c : Nat} (h : MdB w W b1 b4 pc r0 rs v5 (o :: os) (.slice A (os.length + 1) c)) : MdB w W b1 b4 pc r0 rs v5 os (.slice (if c = 1 then A else A.map (·.add 1)) os.length (c - 1)) :=
  ⟨h.h1, h.h4, h.q5, q_drop (k := 1) h.q7 (by simp), h.n4, h.below⟩
end
theorem cell_below {w W : World} {a : Addr} {v : Value} (h : w.cell? a = some v) (hB : Below w.heap.size w W) : W.cell? a = some v := by
  have hlt : a.block < w.heap.size := by
    rcases Nat.lt_or_ge a.block w.heap.size with h1 | h1
    · exact h1
    · exfalso
      unfold World.cell? at h
      rw [Array.getElem?_eq_none h1] at h
      simp at h
  rw [← h]
  unfold World.cell?
  rw [hB.block a.block hlt]
def lenV : Value → Nat
  | .slice _ n _ => n
  | _ => 0
set_option maxHeartbeats 4000000 in
set_option maxRecDepth 100000 in
theorem made_calls (w : World) (p f : Int) (A : Option Addr) (c : Nat) (xs : List Int) (hp : 0 ≤ p ∧ p < 256) (hf : 0 ≤ f ∧ f < 18446744073709551616) (hxs : ∀ x ∈ xs, 0 ≤ x ∧ x < 65536) (hlen : xs.length ≤ 100)
    (hcell : ∀ (j : Nat) (h : j < xs.length), ∃ ad, A = some ad ∧ w.cell? (ad.add j) = some (.int .u16 xs[j])) :
    Calls Tryd.prog 24 #[.agg #[.int .u8 p, .int .u64 f, .slice A xs.length c]] w fun e w' => ∃ (v : Value) (rs : List Rec) (x : Sc), e = .returned v ∧ QRow w' w.heap.size 51 9 v rs.length (flatR rs) ∧ Feed 1 Sc.start rs x ∧ rs ≠ [] ∧ rs.length ≤ 300 ∧ Below w.heap.size w w' := by
  obtain ⟨pl, hpl, hpe⟩ : ∃ pl, (pl = 0 ∨ pl = 1) ∧ p % 2 = pl := ⟨p % 2, by omega, rfl⟩
  obtain ⟨fi, hfi, hfe⟩ : ∃ fi, (0 ≤ fi ∧ fi < 1152921504606846976) ∧ f % 1152921504606846976 = fi := ⟨f % 1152921504606846976, by omega, rfl⟩
  have hpt : Int.tmod p 2 = pl := by rw [← hpe]; exact Int.tmod_eq_emod_of_nonneg hp.1
  have hft : Int.tmod f 1152921504606846976 = fi := by rw [← hfe]; exact Int.tmod_eq_emod_of_nonneg hf.1
  have HA := Lib.hid (heap_alloc_new (w.alloc (.cells #[.int .u8 p, .int .u64 f, .slice A xs.length c] 64)) (.cells Rec.zero.cells 51))
  have HBa := Lib.hid (((Below.refl w.heap.size w).alloc (Nat.le_refl _) (.cells #[.int .u8 p, .int .u64 f, .slice A xs.length c] 64)).alloc (by simp) (.cells Rec.zero.cells 51))
  have hsz : (w.alloc (.cells #[.int .u8 p, .int .u64 f, .slice A xs.length c] 64)).heap.size = w.heap.size + 1 := by simp
  rw [hsz] at HA
  go_enter Tryd.func24, Tryd.ntmps24
  go_wp2_with (first | ((with_reducible refine gate_store (t := 51) (p := 4) rfl ?_); refine store_rec rfl 51 (.tmp 4) (.tmp 17) rfl info51 (w.heap.size + 1) 51 (⟨3, 0, 0, 0, 0, 1, fi, 1, pl⟩ : Rec) Rec.zero rfl rfl HA.out ?_; intro w2 hz2 hk2 hb2; have HZ2 := Lib.hid hz2; have HK2 := Lib.hid hk2; have HB2 := Lib.hid (hb2 w.heap.size w (by omega) HBa.out); clear hz2 hk2 hb2; have s0 : w2.cell? ⟨w.heap.size + 1, 0, none⟩ = some (.int .i64 3) := blk_cell HZ2.out 0; have s1 : w2.cell? ⟨w.heap.size + 1, 1, none⟩ = some (.int .u64 0) := blk_cell HZ2.out 1; have s2 : w2.cell? ⟨w.heap.size + 1, 2, none⟩ = some (.int .u8 0) := blk_cell HZ2.out 2; have s3 : w2.cell? ⟨w.heap.size + 1, 3, none⟩ = some (.int .u8 0) := blk_cell HZ2.out 3; have s4 : w2.cell? ⟨w.heap.size + 1, 4, none⟩ = some (.int .u8 0) := blk_cell HZ2.out 4; have s5 : w2.cell? ⟨w.heap.size + 1, 5, none⟩ = some (.int .u64 1) := blk_cell HZ2.out 5; have s6 : w2.cell? ⟨w.heap.size + 1, 6, none⟩ = some (.int .u64 fi) := blk_cell HZ2.out 6; have s7 : w2.cell? ⟨w.heap.size + 1, 7, none⟩ = some (.int .u64 1) := blk_cell HZ2.out 7; have s8 : w2.cell? ⟨w.heap.size + 1, 8, none⟩ = some (.int .u8 pl) := blk_cell HZ2.out 8))
  have HMd := Lib.hid (show MdB w (w2.alloc (.cells #[.int .i64 3, .int .u64 0, .int .u8 0, .int .u8 0, .int .u8 0, .int .u64 1, .int .u64 fi, .int .u64 1, .int .u8 pl] 51)) w.heap.size (w.heap.size + 1) #[.int .u8 p, .int .u64 f, .slice A xs.length c] (⟨3, 0, 0, 0, 0, 1, fi, 1, pl⟩ : Rec) [(⟨3, 0, 0, 0, 0, 1, fi, 1, pl⟩ : Rec)] (.slice (some ⟨w2.heap.size, 0, none⟩) 1 1) [] (.slice none 0 0) from
    ⟨blk_alloc ((HK2.out.2 _ (by simp; omega) (by omega)).trans (blk_alloc (heap_alloc_new w _) _)) _, blk_alloc HZ2.out _, q_new w2 w.heap.size HB2.out.size [(⟨3, 0, 0, 0, 0, 1, fi, 1, pl⟩ : Rec)] (by simp), ⟨rfl, Or.inl ⟨rfl, none, rfl, by simp⟩⟩, by simp [Value.ownBlock]; have := blk_lt HZ2.out; omega, HB2.out.alloc HB2.out.size _⟩)
  have HF0 := Lib.hid (show Feed 1 Sc.start [(⟨3, 0, 0, 0, 0, 1, fi, 1, pl⟩ : Rec)] (Sc.opened (⟨3, 0, 0, 0, 0, 1, fi, 1, pl⟩ : Rec)) from .cons rfl (Or.inr (Or.inr ⟨rfl, rfl, (show (0 : Int) ≤ 1 ∧ (1 : Int) < 18446744073709551616 by decide), ⟨hfi.1, by show fi < _; omega⟩, (show (0 : Int) ≤ 1 ∧ (1 : Int) < 18446744073709551616 by decide), by show 0 ≤ pl; omega, by show pl ≤ 1; omega⟩)) (.nil _))
  clear s0 s1 s2 s3 s4 s5 s6 s7 s8 HZ2 HK2 HB2 HA HBa hsz hpt hft hpe hfe
  generalize w2.alloc (.cells #[.int .i64 3, .int .u64 0, .int .u8 0, .int .u8 0, .int .u8 0, .int .u64 1, .int .u64 fi, .int .u64 1, .int .u8 pl] 51) = w3 at HMd ⊢
  go_loopw [5, 6, 7, 8] (fun t5 t6 t7 t8 wr => ∃ (k : Nat) (rs : List Rec) (x : Sc), k ≤ xs.length ∧ t8 = .int .i64 k ∧ t6 = .int .u64 x.count ∧ Feed 1 Sc.start rs x ∧ rs ≠ [] ∧ x.begun = true ∧ x.head.player = pl ∧ MdB w wr w.heap.size (w.heap.size + 1) #[.int .u8 p, .int .u64 f, .slice A xs.length c] (⟨3, 0, 0, 0, 0, 1, fi, 1, pl⟩ : Rec) rs t5 x.owned t7 ∧ rs.length + x.owned.length ≤ 1 + 2 * k ∧ x.count + x.owned.length ≤ fi + k ∧ (∀ o ∈ x.owned, 0 ≤ o ∧ o < 64)) (fun _ _ _ t8 _ => xs.length - (intOf t8).toNat)
  case atStart => exact ⟨0, _, _, by omega, rfl, rfl, HF0.out, by simp, rfl, rfl, HMd.out, by simp [Sc.opened], by simp [Sc.opened], by simp [Sc.opened]⟩
  case round =>
    obtain ⟨k, rs, x, hk, rfl, rfl, hF, hne, hbg, hhd, hM, hl1, hl2, hown⟩ := hrel
    obtain ⟨A5, c5, rfl, _⟩ := q_slice hM.q5
    obtain ⟨A7, c7, rfl, _⟩ := q_slice hM.q7
    have HM := Lib.hid hM
    have HF := Lib.hid hF
    have c12 : wr.cell? ⟨w.heap.size, 2, none⟩ = some (.slice A xs.length c) := blk_cell hM.h1 2
    clear hM hF HMd HF0
    by_cases hlt : k < xs.length
    · have hltb : decide ((k : Int) < (xs.length : Int)) = true := decide_eq_true (by omega)
      have hk0 : 0 ≤ (k : Int) := by omega
      obtain ⟨ad, rfl, hcel⟩ := hcell k hlt
      have HCel := Lib.hid hcel
      have hs := hxs _ (List.getElem_mem hlt)
      have hgood := HF.out.good good_start
      have hfr := hgood.frames
      generalize xs[k] = s at *
      have hcs : wr.cell? (ad.add k) = some (.int .u16 s) := cell_below HCel.out HM.out.below
      obtain ⟨s64, hs64, hse⟩ : ∃ s64, (0 ≤ s64 ∧ s64 < 64) ∧ s % 64 = s64 := ⟨s % 64, by omega, rfl⟩
      have hst : Int.tmod s 64 = s64 := by rw [← hse]; exact Int.tmod_eq_emod_of_nonneg hs.1
      obtain ⟨E, hE, hEe⟩ : ∃ E, (0 ≤ E ∧ E < 64) ∧ IntKind.u8.wrap ((s / 128).tmod 64) = E := by
        refine ⟨(s / 128) % 64, by omega, ?_⟩
        rw [Int.tmod_eq_emod_of_nonneg (by omega)]
        exact IntWalk.u8_in _ ⟨by omega, by omega⟩
      have hsw : IntKind.u8.wrap s64 = s64 := IntWalk.u8_in _ ⟨by omega, by omega⟩
      by_cases h12 : x.owned.length < 12
      · have d12 : decide ((x.owned.length : Int) < 12) = true := decide_eq_true (by omega)
        have hlw : IntKind.u64.wrap (x.owned.length : Int) = (x.owned.length : Int) := IntWalk.u64_in _ ⟨by omega, by omega⟩
        have hsum : IntKind.u64.wrap (x.count + (x.owned.length : Int)) = x.count + (x.owned.length : Int) := IntWalk.u64_in _ ⟨by omega, by omega⟩
        have HO := Lib.hid (fun W : World => (show Calls Tryd.prog 44 #[.int .u64 (x.count + (x.owned.length : Int)), .int .u8 s64] W (fun e w' => e = .returned (.agg #[.int .i64 1, .int .u64 (x.count + (x.owned.length : Int)), .int .u8 s64, .int .u8 0, .int .u8 0, .int .u64 0, .int .u64 0, .int .u64 0, .int .u8 0]) ∧ Below W.heap.size W w') from lown_calls W W.heap.size (Nat.le_refl _) _ _))
        go_wp2_with fail
        refine (HO.out wr).mono ?_
        rintro e w1 ⟨rfl, hB1⟩
        have HM1 := Lib.hid (md_below HM.out hB1)
        clear hB1 HO HM c12 hcs
        go_wp2_with (first | ((with_reducible refine gate_app (t := 52) rfl ?_); refine q_app_list w.heap.size rfl (.tmp 31) (.tmp 45) 52 51 Rec.zero.val 9 56 rfl Tryd.underlying52 info51b rfl (by decide) (by decide) (.slice A5 rs.length c5) rs.length (flatR rs) ⟨w1.heap.size, 0, none⟩ 1 1 ((⟨1, x.count + (x.owned.length : Int), s64, 0, 0, 0, 0, 0, 0⟩ : Rec)).cells.toList rfl rfl (by decide) rfl (news_blk (heap_alloc_new w1 _)) (by intro u hu; exact (Array.all_eq_true_iff_forall_mem.1 ((⟨1, x.count + (x.owned.length : Int), s64, 0, 0, 0, 0, 0, 0⟩ : Rec)).ones) u (by simpa using hu)) (q_alloc HM1.out.q5 _) (by have := HM1.out.below.size; simp; omega) (by omega) ?_; intro v_ w4 hq hgr hat; have HM4 := Lib.hid (md_app5 (md_alloc HM1.out _) (⟨1, x.count + (x.owned.length : Int), s64, 0, 0, 0, 0, 0, 0⟩ : Rec) hq hgr hat); obtain ⟨AL, cL, hv_, _⟩ := q_slice hq; subst hv_; have c12b : w4.cell? ⟨w.heap.size, 2, none⟩ = some (.slice (some ad) xs.length c) := blk_cell HM4.out.h1 2; have hcsb : w4.cell? (ad.add k) = some (.int .u16 s) := cell_below HCel.out HM4.out.below; clear hq hgr hat) | ((with_reducible refine gate_app (t := 70) rfl ?_); refine q_app_list w.heap.size rfl (.tmp 47) (.tmp 55) 70 47 (.int .u8 0) 1 1 rfl Tryd.underlying70 info47 rfl (by decide) (by decide) (.slice A7 x.owned.length c7) x.owned.length (nums .u8 x.owned) ⟨w4.heap.size, 0, none⟩ 1 1 [.int .u8 s64] rfl rfl (by decide) rfl (news_blk (cs := #[.int .u8 s64]) (heap_alloc_new w4 _)) (by intro u hu; simp at hu; subst hu; rfl) (q_alloc HM4.out.q7 _) (by have := HM4.out.below.size; simp; omega) (by omega) ?_; intro v_ w6 hq hgr hat; have HM6 := Lib.hid (md_app7 (md_alloc HM4.out _) s64 hq hgr); obtain ⟨AM, cM, hv_, _⟩ := q_slice hq; subst hv_; clear hq hgr hat))
        have hq : Rec.may (⟨1, x.count + (x.owned.length : Int), s64, 0, 0, 0, 0, 0, 0⟩ : Rec) := Or.inl ⟨rfl, rfl, ⟨by show 0 ≤ x.count + _; omega, by show x.count + _ < _; omega⟩, hs64⟩
        have hstk : stakeS 1 x (⟨1, x.count + (x.owned.length : Int), s64, 0, 0, 0, 0, 0, 0⟩ : Rec) = ({ x with owned := x.owned ++ [s64], l := x.l ++ [(⟨1, x.count + (x.owned.length : Int), s64, 0, 0, 0, 0, 0, 0⟩ : Rec)] }, 0) := by
          unfold stakeS
          rw [if_neg (by show ¬ (1 : Int) = 3; decide), if_neg (by show ¬ (1 : Int) = 2; decide)]
          unfold ownS
          rw [if_pos ⟨hbg, h12, by show x.count + _ ≠ _; omega, rfl⟩]
        have HS := Lib.hid (show ∃ x1 : Sc, x1.count = x.count ∧ x1.owned = x.owned ++ [s64] ∧ Feed 1 Sc.start (rs ++ [(⟨1, x.count + (x.owned.length : Int), s64, 0, 0, 0, 0, 0, 0⟩ : Rec)]) x1 ∧ x1.begun = true ∧ x1.head.player = pl from ⟨{ x with owned := x.owned ++ [s64], l := x.l ++ [(⟨1, x.count + (x.owned.length : Int), s64, 0, 0, 0, 0, 0, 0⟩ : Rec)] }, rfl, rfl, HF.out.snoc hstk hq, hbg, hhd⟩)
        clear hstk hq hlw hsum d12 c12b hcsb HM1 HM4
        go_loopw [5, 6, 7] (fun t5 t6 t7 wr => ∃ (rs : List Rec) (x : Sc), t6 = .int .u64 x.count ∧ Feed 1 Sc.start rs x ∧ rs ≠ [] ∧ x.begun = true ∧ x.head.player = pl ∧ MdB w wr w.heap.size (w.heap.size + 1) #[.int .u8 p, .int .u64 f, .slice (some ad) xs.length c] (⟨3, 0, 0, 0, 0, 1, fi, 1, pl⟩ : Rec) rs t5 x.owned t7 ∧ rs.length + x.owned.length ≤ 1 + 2 * (k + 1) ∧ x.count + x.owned.length ≤ fi + (k + 1) ∧ (∀ o ∈ x.owned, 0 ≤ o ∧ o < 64)) (fun _ _ t7 _ => lenV t7)
        case atStart =>
          obtain ⟨x1, e1, e2, hF1, hb1, hh1⟩ := HS.out
          exact ⟨_, x1, by rw [e1], hF1, by simp, hb1, hh1, by rw [e2]; exact HM6.out, by rw [e2]; simp; omega, by rw [e1, e2]; simp; omega, by rw [e2]; intro o ho; rw [List.mem_append] at ho; rcases ho with ho | ho; exact hown o ho; simp at ho; subst ho; exact hs64⟩
        case round =>
          clear HS HM6 HF hl1 hl2 hown hne hbg hhd
          obtain ⟨rs, x, rfl, hF, hne, hbg, hhd, hM, hl1, hl2, hown⟩ := hrel
          obtain ⟨A5, c5, rfl, _⟩ := q_slice hM.q5
          obtain ⟨A7, c7, rfl, _⟩ := q_slice hM.q7
          have HM := Lib.hid hM
          have HF := Lib.hid hF
          have c12 : wr.cell? ⟨w.heap.size, 2, none⟩ = some (.slice (some ad) xs.length c) := blk_cell hM.h1 2
          have hcs : wr.cell? (ad.add k) = some (.int .u16 s) := cell_below HCel.out hM.below
          clear hM hF
          by_cases hd : (Go.bits .and .u16 s 64 != 0) = true
          · by_cases how : x.owned = []
            · have d0 : decide ((0 : Int) < (x.owned.length : Int)) = false := decide_eq_false (by rw [how]; decide)
              have d0n : decide (0 < x.owned.length) = false := decide_eq_false (by rw [how]; decide)
              go_wp2
              exact ⟨⟨k + 1, rs, x, by omega, by go_num, rfl, HF.out, hne, hbg, hhd, HM.out, hl1, by omega, hown⟩, by simp [intOf]; omega⟩
            · obtain ⟨o, os, how⟩ := List.exists_cons_of_ne_nil how
              have HFS := Lib.hid (show ∀ q : Rec, q.may → (q.kind = 2 ∧ q.frame = x.count ∧ q.pair pl = o) → ∃ x1 : Sc, x1.count = x.count + 1 ∧ x1.owned = os ∧ Feed 1 Sc.start (rs ++ [q]) x1 ∧ x1.begun = true ∧ x1.head.player = pl from by
                intro q hq ⟨q1, q2, q3⟩
                have hst : stakeS 1 x q = ({ x with count := x.count + 1, owned := os, l := x.l ++ [q] }, 0) := by
                  unfold stakeS
                  rw [if_neg (by omega), if_pos q1]
                  unfold sureS
                  rw [how]
                  simp only
                  rw [if_pos ⟨hbg, q2⟩, if_pos (by rw [hhd]; exact q3)]
                exact ⟨{ x with count := x.count + 1, owned := os, l := x.l ++ [q] }, rfl, rfl, HF.out.snoc hst hq, hbg, hhd⟩)
              have hgood := HF.out.good good_start
              have hfr := hgood.frames
              rw [how] at hl1 hl2 hown hfr
              have HM := Lib.hid (show MdB w wr w.heap.size (w.heap.size + 1) #[.int .u8 p, .int .u64 f, .slice (some ad) xs.length c] (⟨3, 0, 0, 0, 0, 1, fi, 1, pl⟩ : Rec) rs (.slice A5 rs.length c5) (o :: os) (.slice A7 (os.length + 1) c7) by have := HM.out; rw [how] at this; exact this)
              rw [show x.owned.length = os.length + 1 by rw [how]; rfl]
              have ho := hown o (by simp)
              have hos := fun o' (h : o' ∈ os) => hown o' (by simp [h])
              simp only [List.length_cons] at hl1 hl2 hfr
              obtain ⟨⟨bp, fp, pp⟩, rfl, hcp⟩ := q_cells HM.out.q7 (by simp)
              have o0 : wr.cell? ⟨bp, fp, pp⟩ = some (.int .u8 o) := hcp 0 _ rfl
              have s8 : wr.cell? ⟨w.heap.size + 1, 8, none⟩ = some (.int .u8 pl) := blk_cell HM.out.h4 8
              have d0 : decide ((0 : Int) < ((os.length + 1 : Nat) : Int)) = true := decide_eq_true (by omega)
              have hcnt : IntKind.u64.wrap (x.count + 1) = x.count + 1 := IntWalk.u64_in _ ⟨by omega, by omega⟩
              have hcb : 0 ≤ x.count ∧ x.count < 18446744073709551616 := ⟨by omega, by omega⟩
              clear hcp how hgood hfr
              rcases hpl with rfl | rfl
              · go_wp2_with fail
                have HM9 := Lib.hid (md_alloc HM.out (.cells #[.int .u8 0, .int .u8 0] 49))
                have HN9 := Lib.hid (heap_alloc_new wr (.cells #[.int .u8 0, .int .u8 0] 49))
                have o9 : (wr.alloc (.cells #[.int .u8 0, .int .u8 0] 49)).cell? ⟨bp, fp, pp⟩ = some (.int .u8 o) := cell_below o0 ((Below.refl wr.heap.size wr).alloc (Nat.le_refl _) _)
                have hge : w.heap.size ≤ wr.heap.size := HM.out.below.size
                clear o0 s8 c12 hcs
                generalize wr.alloc (.cells #[.int .u8 0, .int .u8 0] 49) = w9 at HM9 HN9 o9 ⊢
                refine start_ (n := 7) (S := (fun w' => w'.cell? ⟨w.heap.size + 1, 8, none⟩ = some (.int .u8 0) ∧ w'.cell? ⟨bp, fp, pp⟩ = some (.int .u8 o))) (ds := [6]) #[false, false, false, false, false, false, false] (by kernel_rfl) rfl rfl ⟨blk_cell HM9.out.h4 8, o9⟩ (fun hHeld => ?_)
                refine pure_ (i := 0) (N := some 70) (v := ?_) (a' := ?_) #[true, false, false, false, false, false, false] rfl rfl (by kernel_rfl) (fun _ _ _ h => h) (Or.inl ⟨by rfl, ?_⟩) ?_ ?_
                rotate_left
                · intro w'
                  go_simp
                  with_reducible rfl
                rotate_left
                · simp only [Act.put, List.setIfInBounds_toArray, List.set_cons_zero, List.set_cons_succ, i64_w, i32_w]
                  rfl
                refine take_ (i := 1) (N := some 71) (v := ?_) (a' := ?_) #[true, true, false, false, false, false, false] rfl rfl (by kernel_rfl) (fun _ _ _ h => h) (Or.inl ⟨by rfl, ?_⟩) hHeld ?_ ?_
                rotate_left
                · rintro w' ⟨s0, s1⟩
                  go_simp
                  with_reducible rfl
                rotate_left
                · simp only [Act.put, List.setIfInBounds_toArray, List.set_cons_zero, List.set_cons_succ, i64_w, i32_w]
                  rfl
                refine pure_ (i := 2) (N := some 72) (v := ?_) (a' := ?_) #[true, true, true, false, false, false, false] rfl rfl (by kernel_rfl) (fun _ _ _ h => h) (Or.inl ⟨by rfl, ?_⟩) ?_ ?_
                rotate_left
                · intro w'
                  go_simp
                  with_reducible rfl
                rotate_left
                · simp only [Act.put, List.setIfInBounds_toArray, List.set_cons_zero, List.set_cons_succ, i64_w, i32_w]
                  rfl
                refine pure_ (i := 3) (N := some 73) (v := ?_) (a' := ?_) #[true, true, true, true, false, false, false] rfl rfl (by kernel_rfl) (fun _ _ _ h => h) (Or.inl ⟨by rfl, ?_⟩) ?_ ?_
                rotate_left
                · intro w'
                  go_simp
                  with_reducible rfl
                rotate_left
                · simp only [Act.put, List.setIfInBounds_toArray, List.set_cons_zero, List.set_cons_succ, i64_w, i32_w]
                  rfl
                refine take_ (i := 4) (N := some 74) (v := ?_) (a' := ?_) #[true, true, true, true, true, false, false] rfl rfl (by kernel_rfl) (fun _ _ _ h => h) (Or.inl ⟨by rfl, ?_⟩) hHeld ?_ ?_
                rotate_left
                · rintro w' ⟨s0, s1⟩
                  go_simp
                  with_reducible rfl
                rotate_left
                · simp only [Act.put, List.setIfInBounds_toArray, List.set_cons_zero, List.set_cons_succ, i64_w, i32_w]
                  rfl
                refine pure_ (i := 5) (N := some 75) (v := ?_) (a' := ?_) #[true, true, true, true, true, true, false] rfl rfl (by kernel_rfl) (fun _ _ _ h => h) (Or.inl ⟨by rfl, ?_⟩) ?_ ?_
                rotate_left
                · intro w'
                  go_simp
                  with_reducible rfl
                rotate_left
                · simp only [Act.put, List.setIfInBounds_toArray, List.set_cons_zero, List.set_cons_succ, i64_w, i32_w]
                  rfl
                refine last_ (i := 6) (N := none) #[true, true, true, true, true, true, true] rfl rfl (by kernel_rfl) (by decide) (fun K hK => ?_)
                have t9 : w9.drew.cell? ⟨wr.heap.size, 0, none⟩ = some (.int .u8 0) := (blk_cell HN9.out 0).trans rfl
                have z9 : w9.drew.frozen? ⟨wr.heap.size, 0, none⟩ = false := blk_frozen HN9.out 0
                refine skip_ (w1 := ?_) (by rfl) rfl ?_ ?_
                rotate_left
                · go_simp
                  rfl
                refine hK.out _ _ ?_
                clear hK K t9 z9
                refine done_ (by kernel_rfl) ?_
                go_wp2_with fail
                have HMA := Lib.hid (md_drew (md_set HM9.out HN9.out hge 0 (.int .u8 o)))
                have HNA := Lib.hid (show ((w9.setCell ⟨wr.heap.size, 0, none⟩ (.int .u8 o)).drew).heap[wr.heap.size]? = _ from blk_set HN9.out 0 (.int .u8 o))
                clear HM9 HN9 o9 hHeld
                generalize (w9.setCell ⟨wr.heap.size, 0, none⟩ (.int .u8 o)).drew = wA at HMA HNA ⊢
                have hcA : wA.cell? (ad.add k) = some (.int .u16 s) := cell_below HCel.out HMA.out.below
                refine start_ (n := 13) (S := (fun w' => w'.cell? ⟨w.heap.size + 1, 8, none⟩ = some (.int .u8 0) ∧ w'.cell? ⟨w.heap.size, 2, none⟩ = some (.slice (some ad) xs.length c) ∧ w'.cell? (ad.add k) = some (.int .u16 s))) (ds := [12]) #[false, false, false, false, false, false, false, false, false, false, false, false, false] (by kernel_rfl) rfl rfl ⟨blk_cell HMA.out.h4 8, blk_cell HMA.out.h1 2, hcA⟩ (fun hHeld => ?_)
                refine pure_ (i := 0) (N := some 76) (v := ?_) (a' := ?_) #[true, false, false, false, false, false, false, false, false, false, false, false, false] rfl rfl (by kernel_rfl) (fun _ _ _ h => h) (Or.inl ⟨by rfl, ?_⟩) ?_ ?_
                rotate_left
                · intro w'
                  go_simp
                  with_reducible rfl
                rotate_left
                · simp only [Act.put, List.setIfInBounds_toArray, List.set_cons_zero, List.set_cons_succ, i64_w, i32_w]
                  rfl
                refine take_ (i := 1) (N := some 77) (v := ?_) (a' := ?_) #[true, true, false, false, false, false, false, false, false, false, false, false, false] rfl rfl (by kernel_rfl) (fun _ _ _ h => h) (Or.inl ⟨by rfl, ?_⟩) hHeld ?_ ?_
                rotate_left
                · rintro w' ⟨s0, s1, s2⟩
                  go_simp
                  with_reducible rfl
                rotate_left
                · simp only [Act.put, List.setIfInBounds_toArray, List.set_cons_zero, List.set_cons_succ, i64_w, i32_w]
                  rfl
                refine pure_ (i := 2) (N := some 78) (v := .int .u8 1) (a' := ?aa1) #[true, true, true, false, false, false, false, false, false, false, false, false, false] rfl rfl (by kernel_rfl) (fun _ _ _ h => h) (Or.inl ⟨by rfl, fun w' => by go_simp <;> rfl⟩) ?ha1 ?hm1
                case ha1 => simp only [Act.put, List.setIfInBounds_toArray, List.set_cons_zero, List.set_cons_succ, i64_w, i32_w]; rfl
                refine pure_ (i := 3) (N := some 79) (v := ?_) (a' := ?_) #[true, true, true, true, false, false, false, false, false, false, false, false, false] rfl rfl (by kernel_rfl) (fun _ _ _ h => h) (Or.inl ⟨by rfl, ?_⟩) ?_ ?_
                rotate_left
                · intro w'
                  go_simp
                  with_reducible rfl
                rotate_left
                · simp only [Act.put, List.setIfInBounds_toArray, List.set_cons_zero, List.set_cons_succ, i64_w, i32_w]
                  rfl
                refine take_ (i := 4) (N := some 80) (v := ?_) (a' := ?_) #[true, true, true, true, true, false, false, false, false, false, false, false, false] rfl rfl (by kernel_rfl) (fun _ _ _ h => h) (Or.inl ⟨by rfl, ?_⟩) hHeld ?_ ?_
                rotate_left
                · rintro w' ⟨s0, s1, s2⟩
                  go_simp
                  with_reducible rfl
                rotate_left
                · simp only [Act.put, List.setIfInBounds_toArray, List.set_cons_zero, List.set_cons_succ, i64_w, i32_w]
                  rfl
                refine pure_ (i := 5) (N := some 81) (v := ?_) (a' := ?_) #[true, true, true, true, true, true, false, false, false, false, false, false, false] rfl rfl (by kernel_rfl) (fun _ _ _ h => h) (Or.inl ⟨by rfl, ?_⟩) ?_ ?_
                rotate_left
                · intro w'
                  go_simp
                  with_reducible rfl
                rotate_left
                · simp only [Act.put, List.setIfInBounds_toArray, List.set_cons_zero, List.set_cons_succ, i64_w, i32_w]
                  rfl
                refine pure_ (i := 6) (N := some 82) (v := ?_) (a' := ?_) #[true, true, true, true, true, true, true, false, false, false, false, false, false] rfl rfl (by kernel_rfl) (fun _ _ _ h => h) (Or.inl ⟨by rfl, ?_⟩) ?_ ?_
                rotate_left
                · intro w'
                  go_simp
                  with_reducible rfl
                rotate_left
                · simp only [Act.put, List.setIfInBounds_toArray, List.set_cons_zero, List.set_cons_succ, i64_w, i32_w]
                  rfl
                refine take_ (i := 7) (N := some 83) (v := ?_) (a' := ?_) #[true, true, true, true, true, true, true, true, false, false, false, false, false] rfl rfl (by kernel_rfl) (fun _ _ _ h => h) (Or.inl ⟨by rfl, ?_⟩) hHeld ?_ ?_
                rotate_left
                · rintro w' ⟨s0, s1, s2⟩
                  go_simp
                  with_reducible rfl
                rotate_left
                · simp only [Act.put, List.setIfInBounds_toArray, List.set_cons_zero, List.set_cons_succ, i64_w, i32_w]
                  rfl
                refine pure_ (i := 8) (N := some 84) (v := ?_) (a' := ?_) #[true, true, true, true, true, true, true, true, true, false, false, false, false] rfl rfl (by kernel_rfl) (fun _ _ _ h => h) (Or.inl ⟨by rfl, ?_⟩) ?_ ?_
                rotate_left
                · intro w'
                  go_simp
                  with_reducible rfl
                rotate_left
                · simp only [Act.put, List.setIfInBounds_toArray, List.set_cons_zero, List.set_cons_succ, i64_w, i32_w]
                  rfl
                refine pure_ (i := 9) (N := some 85) (v := ?_) (a' := ?_) #[true, true, true, true, true, true, true, true, true, true, false, false, false] rfl rfl (by kernel_rfl) (fun _ _ _ h => h) (Or.inl ⟨by rfl, ?_⟩) ?_ ?_
                rotate_left
                · intro w'
                  go_simp
                  with_reducible rfl
                rotate_left
                · simp only [Act.put, List.setIfInBounds_toArray, List.set_cons_zero, List.set_cons_succ, i64_w, i32_w]
                  rfl
                refine pure_ (i := 10) (N := some 86) (v := .int .u8 E) (a' := ?aa2) #[true, true, true, true, true, true, true, true, true, true, true, false, false] rfl rfl (by kernel_rfl) (fun _ _ _ h => h) (Or.inl ⟨by rfl, fun w' => by go_simp <;> exact hEe⟩) ?ha2 ?hm2
                case ha2 => simp only [Act.put, List.setIfInBounds_toArray, List.set_cons_zero, List.set_cons_succ, i64_w, i32_w]; rfl
                refine pure_ (i := 11) (N := some 87) (v := ?_) (a' := ?_) #[true, true, true, true, true, true, true, true, true, true, true, true, false] rfl rfl (by kernel_rfl) (fun _ _ _ h => h) (Or.inl ⟨by rfl, ?_⟩) ?_ ?_
                rotate_left
                · intro w'
                  go_simp
                  with_reducible rfl
                rotate_left
                · simp only [Act.put, List.setIfInBounds_toArray, List.set_cons_zero, List.set_cons_succ, i64_w, i32_w]
                  rfl
                refine last_ (i := 12) (N := none) #[true, true, true, true, true, true, true, true, true, true, true, true, true] rfl rfl (by kernel_rfl) (by decide) (fun K hK => ?_)
                have t9 : wA.drew.cell? ⟨wr.heap.size, 1, none⟩ = some (.int .u8 0) := (blk_cell HNA.out 1).trans rfl
                have z9 : wA.drew.frozen? ⟨wr.heap.size, 1, none⟩ = false := blk_frozen HNA.out 1
                refine skip_ (w1 := ?_) (by rfl) rfl ?_ ?_
                rotate_left
                · go_simp
                  rfl
                refine hK.out _ _ ?_
                clear hK K t9 z9
                refine done_ (by kernel_rfl) ?_
                have HMB := Lib.hid (show MdB w ((wA.setCell ⟨wr.heap.size, 1, none⟩ (.int .u8 E)).drew) w.heap.size (w.heap.size + 1) #[.int .u8 p, .int .u64 f, .slice (some ad) xs.length c] (⟨3, 0, 0, 0, 0, 1, fi, 1, 0⟩ : Rec) rs (.slice A5 rs.length c5) (o :: os) (.slice (some ⟨bp, fp, pp⟩) (os.length + 1) c7) from md_drew (md_set HMA.out HNA.out hge 1 (.int .u8 E)))
                have HNB := Lib.hid (show ((wA.setCell ⟨wr.heap.size, 1, none⟩ (.int .u8 E)).drew).heap[wr.heap.size]? = _ from blk_set HNA.out 1 (.int .u8 E))
                clear hcA hHeld HMA HNA
                generalize (wA.setCell ⟨wr.heap.size, 1, none⟩ (.int .u8 E)).drew = wB at HMB HNB ⊢
                have n0 : wB.cell? ⟨wr.heap.size, 0, none⟩ = some (.int .u8 o) := (blk_cell HNB.out 0).trans rfl
                have n1 : wB.cell? ⟨wr.heap.size, 1, none⟩ = some (.int .u8 E) := (blk_cell HNB.out 1).trans rfl
                go_wp2_with (first | ((with_reducible refine gate_app (t := 52) rfl ?_); refine q_app_list w.heap.size rfl (.tmp 88) (.tmp 92) 52 51 Rec.zero.val 9 56 rfl Tryd.underlying52 info51b rfl (by decide) (by decide) (.slice A5 rs.length c5) rs.length (flatR rs) ⟨wB.heap.size, 0, none⟩ 1 1 ((⟨2, x.count, 0, o, E, 0, 0, 0, 0⟩ : Rec)).cells.toList rfl rfl (by decide) rfl (news_blk (heap_alloc_new wB _)) (by intro u hu; exact (Array.all_eq_true_iff_forall_mem.1 ((⟨2, x.count, 0, o, E, 0, 0, 0, 0⟩ : Rec)).ones) u (by simpa using hu)) (q_alloc HMB.out.q5 _) (by have := HMB.out.below.size; simp; omega) (by omega) ?_; intro v_ w5 hq hgr hat; have HM5 := Lib.hid (md_app5 (md_alloc HMB.out _) (⟨2, x.count, 0, o, E, 0, 0, 0, 0⟩ : Rec) hq hgr hat); obtain ⟨AL, cL, hv_, _⟩ := q_slice hq; subst hv_; clear hq hgr hat))
                obtain ⟨x1, e1, e2, hF1, hb1, hh1⟩ := HFS.out (⟨2, x.count, 0, o, E, 0, 0, 0, 0⟩ : Rec) (Or.inr (Or.inl ⟨rfl, rfl, hcb, ho, hE⟩)) ⟨rfl, rfl, rfl⟩
                exact ⟨⟨rs ++ [(⟨2, x.count, 0, o, E, 0, 0, 0, 0⟩ : Rec)], x1, by rw [e1], hF1, by simp, hb1, hh1, by rw [e2]; exact md_drop HM5.out, by rw [e2]; simp; omega, by rw [e1, e2]; omega, by rw [e2]; exact hos⟩, by simp [lenV]⟩
              · go_wp2_with fail
                have HM9 := Lib.hid (md_alloc HM.out (.cells #[.int .u8 0, .int .u8 0] 49))
                have HN9 := Lib.hid (heap_alloc_new wr (.cells #[.int .u8 0, .int .u8 0] 49))
                have o9 : (wr.alloc (.cells #[.int .u8 0, .int .u8 0] 49)).cell? ⟨bp, fp, pp⟩ = some (.int .u8 o) := cell_below o0 ((Below.refl wr.heap.size wr).alloc (Nat.le_refl _) _)
                have hge : w.heap.size ≤ wr.heap.size := HM.out.below.size
                clear o0 s8 c12 hcs
                generalize wr.alloc (.cells #[.int .u8 0, .int .u8 0] 49) = w9 at HM9 HN9 o9 ⊢
                refine start_ (n := 7) (S := (fun w' => w'.cell? ⟨w.heap.size + 1, 8, none⟩ = some (.int .u8 1) ∧ w'.cell? ⟨bp, fp, pp⟩ = some (.int .u8 o))) (ds := [6]) #[false, false, false, false, false, false, false] (by kernel_rfl) rfl rfl ⟨blk_cell HM9.out.h4 8, o9⟩ (fun hHeld => ?_)
                refine pure_ (i := 0) (N := some 70) (v := ?_) (a' := ?_) #[true, false, false, false, false, false, false] rfl rfl (by kernel_rfl) (fun _ _ _ h => h) (Or.inl ⟨by rfl, ?_⟩) ?_ ?_
                rotate_left
                · intro w'
                  go_simp
                  with_reducible rfl
                rotate_left
                · simp only [Act.put, List.setIfInBounds_toArray, List.set_cons_zero, List.set_cons_succ, i64_w, i32_w]
                  rfl
                refine take_ (i := 1) (N := some 71) (v := ?_) (a' := ?_) #[true, true, false, false, false, false, false] rfl rfl (by kernel_rfl) (fun _ _ _ h => h) (Or.inl ⟨by rfl, ?_⟩) hHeld ?_ ?_
                rotate_left
                · rintro w' ⟨s0, s1⟩
                  go_simp
                  with_reducible rfl
                rotate_left
                · simp only [Act.put, List.setIfInBounds_toArray, List.set_cons_zero, List.set_cons_succ, i64_w, i32_w]
                  rfl
                refine pure_ (i := 2) (N := some 72) (v := ?_) (a' := ?_) #[true, true, true, false, false, false, false] rfl rfl (by kernel_rfl) (fun _ _ _ h => h) (Or.inl ⟨by rfl, ?_⟩) ?_ ?_
                rotate_left
                · intro w'
                  go_simp
                  with_reducible rfl
                rotate_left
                · simp only [Act.put, List.setIfInBounds_toArray, List.set_cons_zero, List.set_cons_succ, i64_w, i32_w]
                  rfl
                refine pure_ (i := 3) (N := some 73) (v := ?_) (a' := ?_) #[true, true, true, true, false, false, false] rfl rfl (by kernel_rfl) (fun _ _ _ h => h) (Or.inl ⟨by rfl, ?_⟩) ?_ ?_
                rotate_left
                · intro w'
                  go_simp
                  with_reducible rfl
                rotate_left
                · simp only [Act.put, List.setIfInBounds_toArray, List.set_cons_zero, List.set_cons_succ, i64_w, i32_w]
                  rfl
                refine take_ (i := 4) (N := some 74) (v := ?_) (a' := ?_) #[true, true, true, true, true, false, false] rfl rfl (by kernel_rfl) (fun _ _ _ h => h) (Or.inl ⟨by rfl, ?_⟩) hHeld ?_ ?_
                rotate_left
                · rintro w' ⟨s0, s1⟩
                  go_simp
                  with_reducible rfl
                rotate_left
                · simp only [Act.put, List.setIfInBounds_toArray, List.set_cons_zero, List.set_cons_succ, i64_w, i32_w]
                  rfl
                refine pure_ (i := 5) (N := some 75) (v := ?_) (a' := ?_) #[true, true, true, true, true, true, false] rfl rfl (by kernel_rfl) (fun _ _ _ h => h) (Or.inl ⟨by rfl, ?_⟩) ?_ ?_
                rotate_left
                · intro w'
                  go_simp
                  with_reducible rfl
                rotate_left
                · simp only [Act.put, List.setIfInBounds_toArray, List.set_cons_zero, List.set_cons_succ, i64_w, i32_w]
                  rfl
                refine last_ (i := 6) (N := none) #[true, true, true, true, true, true, true] rfl rfl (by kernel_rfl) (by decide) (fun K hK => ?_)
                have t9 : w9.drew.cell? ⟨wr.heap.size, 1, none⟩ = some (.int .u8 0) := (blk_cell HN9.out 1).trans rfl
                have z9 : w9.drew.frozen? ⟨wr.heap.size, 1, none⟩ = false := blk_frozen HN9.out 1
                refine skip_ (w1 := ?_) (by rfl) rfl ?_ ?_
                rotate_left
                · go_simp
                  rfl
                refine hK.out _ _ ?_
                clear hK K t9 z9
                refine done_ (by kernel_rfl) ?_
                go_wp2_with fail
                have HMA := Lib.hid (md_drew (md_set HM9.out HN9.out hge 1 (.int .u8 o)))
                have HNA := Lib.hid (show ((w9.setCell ⟨wr.heap.size, 1, none⟩ (.int .u8 o)).drew).heap[wr.heap.size]? = _ from blk_set HN9.out 1 (.int .u8 o))
                clear HM9 HN9 o9 hHeld
                generalize (w9.setCell ⟨wr.heap.size, 1, none⟩ (.int .u8 o)).drew = wA at HMA HNA ⊢
                have hcA : wA.cell? (ad.add k) = some (.int .u16 s) := cell_below HCel.out HMA.out.below
                refine start_ (n := 13) (S := (fun w' => w'.cell? ⟨w.heap.size + 1, 8, none⟩ = some (.int .u8 1) ∧ w'.cell? ⟨w.heap.size, 2, none⟩ = some (.slice (some ad) xs.length c) ∧ w'.cell? (ad.add k) = some (.int .u16 s))) (ds := [12]) #[false, false, false, false, false, false, false, false, false, false, false, false, false] (by kernel_rfl) rfl rfl ⟨blk_cell HMA.out.h4 8, blk_cell HMA.out.h1 2, hcA⟩ (fun hHeld => ?_)
                refine pure_ (i := 0) (N := some 76) (v := ?_) (a' := ?_) #[true, false, false, false, false, false, false, false, false, false, false, false, false] rfl rfl (by kernel_rfl) (fun _ _ _ h => h) (Or.inl ⟨by rfl, ?_⟩) ?_ ?_
                rotate_left
                · intro w'
                  go_simp
                  with_reducible rfl
                rotate_left
                · simp only [Act.put, List.setIfInBounds_toArray, List.set_cons_zero, List.set_cons_succ, i64_w, i32_w]
                  rfl
                refine take_ (i := 1) (N := some 77) (v := ?_) (a' := ?_) #[true, true, false, false, false, false, false, false, false, false, false, false, false] rfl rfl (by kernel_rfl) (fun _ _ _ h => h) (Or.inl ⟨by rfl, ?_⟩) hHeld ?_ ?_
                rotate_left
                · rintro w' ⟨s0, s1, s2⟩
                  go_simp
                  with_reducible rfl
                rotate_left
                · simp only [Act.put, List.setIfInBounds_toArray, List.set_cons_zero, List.set_cons_succ, i64_w, i32_w]
                  rfl
                refine pure_ (i := 2) (N := some 78) (v := .int .u8 0) (a' := ?aa3) #[true, true, true, false, false, false, false, false, false, false, false, false, false] rfl rfl (by kernel_rfl) (fun _ _ _ h => h) (Or.inl ⟨by rfl, fun w' => by go_simp <;> rfl⟩) ?ha3 ?hm3
                case ha3 => simp only [Act.put, List.setIfInBounds_toArray, List.set_cons_zero, List.set_cons_succ, i64_w, i32_w]; rfl
                refine pure_ (i := 3) (N := some 79) (v := ?_) (a' := ?_) #[true, true, true, true, false, false, false, false, false, false, false, false, false] rfl rfl (by kernel_rfl) (fun _ _ _ h => h) (Or.inl ⟨by rfl, ?_⟩) ?_ ?_
                rotate_left
                · intro w'
                  go_simp
                  with_reducible rfl
                rotate_left
                · simp only [Act.put, List.setIfInBounds_toArray, List.set_cons_zero, List.set_cons_succ, i64_w, i32_w]
                  rfl
                refine take_ (i := 4) (N := some 80) (v := ?_) (a' := ?_) #[true, true, true, true, true, false, false, false, false, false, false, false, false] rfl rfl (by kernel_rfl) (fun _ _ _ h => h) (Or.inl ⟨by rfl, ?_⟩) hHeld ?_ ?_
                rotate_left
                · rintro w' ⟨s0, s1, s2⟩
                  go_simp
                  with_reducible rfl
                rotate_left
                · simp only [Act.put, List.setIfInBounds_toArray, List.set_cons_zero, List.set_cons_succ, i64_w, i32_w]
                  rfl
                refine pure_ (i := 5) (N := some 81) (v := ?_) (a' := ?_) #[true, true, true, true, true, true, false, false, false, false, false, false, false] rfl rfl (by kernel_rfl) (fun _ _ _ h => h) (Or.inl ⟨by rfl, ?_⟩) ?_ ?_
                rotate_left
                · intro w'
                  go_simp
                  with_reducible rfl
                rotate_left
                · simp only [Act.put, List.setIfInBounds_toArray, List.set_cons_zero, List.set_cons_succ, i64_w, i32_w]
                  rfl
                refine pure_ (i := 6) (N := some 82) (v := ?_) (a' := ?_) #[true, true, true, true, true, true, true, false, false, false, false, false, false] rfl rfl (by kernel_rfl) (fun _ _ _ h => h) (Or.inl ⟨by rfl, ?_⟩) ?_ ?_
                rotate_left
                · intro w'
                  go_simp
                  with_reducible rfl
                rotate_left
                · simp only [Act.put, List.setIfInBounds_toArray, List.set_cons_zero, List.set_cons_succ, i64_w, i32_w]
                  rfl
                refine take_ (i := 7) (N := some 83) (v := ?_) (a' := ?_) #[true, true, true, true, true, true, true, true, false, false, false, false, false] rfl rfl (by kernel_rfl) (fun _ _ _ h => h) (Or.inl ⟨by rfl, ?_⟩) hHeld ?_ ?_
                rotate_left
                · rintro w' ⟨s0, s1, s2⟩
                  go_simp
                  with_reducible rfl
                rotate_left
                · simp only [Act.put, List.setIfInBounds_toArray, List.set_cons_zero, List.set_cons_succ, i64_w, i32_w]
                  rfl
                refine pure_ (i := 8) (N := some 84) (v := ?_) (a' := ?_) #[true, true, true, true, true, true, true, true, true, false, false, false, false] rfl rfl (by kernel_rfl) (fun _ _ _ h => h) (Or.inl ⟨by rfl, ?_⟩) ?_ ?_
                rotate_left
                · intro w'
                  go_simp
                  with_reducible rfl
                rotate_left
                · simp only [Act.put, List.setIfInBounds_toArray, List.set_cons_zero, List.set_cons_succ, i64_w, i32_w]
                  rfl
                refine pure_ (i := 9) (N := some 85) (v := ?_) (a' := ?_) #[true, true, true, true, true, true, true, true, true, true, false, false, false] rfl rfl (by kernel_rfl) (fun _ _ _ h => h) (Or.inl ⟨by rfl, ?_⟩) ?_ ?_
                rotate_left
                · intro w'
                  go_simp
                  with_reducible rfl
                rotate_left
                · simp only [Act.put, List.setIfInBounds_toArray, List.set_cons_zero, List.set_cons_succ, i64_w, i32_w]
                  rfl
                refine pure_ (i := 10) (N := some 86) (v := .int .u8 E) (a' := ?aa4) #[true, true, true, true, true, true, true, true, true, true, true, false, false] rfl rfl (by kernel_rfl) (fun _ _ _ h => h) (Or.inl ⟨by rfl, fun w' => by go_simp <;> exact hEe⟩) ?ha4 ?hm4
                case ha4 => simp only [Act.put, List.setIfInBounds_toArray, List.set_cons_zero, List.set_cons_succ, i64_w, i32_w]; rfl
                refine pure_ (i := 11) (N := some 87) (v := ?_) (a' := ?_) #[true, true, true, true, true, true, true, true, true, true, true, true, false] rfl rfl (by kernel_rfl) (fun _ _ _ h => h) (Or.inl ⟨by rfl, ?_⟩) ?_ ?_
                rotate_left
                · intro w'
                  go_simp
                  with_reducible rfl
                rotate_left
                · simp only [Act.put, List.setIfInBounds_toArray, List.set_cons_zero, List.set_cons_succ, i64_w, i32_w]
                  rfl
                refine last_ (i := 12) (N := none) #[true, true, true, true, true, true, true, true, true, true, true, true, true] rfl rfl (by kernel_rfl) (by decide) (fun K hK => ?_)
                have t9 : wA.drew.cell? ⟨wr.heap.size, 0, none⟩ = some (.int .u8 0) := (blk_cell HNA.out 0).trans rfl
                have z9 : wA.drew.frozen? ⟨wr.heap.size, 0, none⟩ = false := blk_frozen HNA.out 0
                refine skip_ (w1 := ?_) (by rfl) rfl ?_ ?_
                rotate_left
                · go_simp
                  rfl
                refine hK.out _ _ ?_
                clear hK K t9 z9
                refine done_ (by kernel_rfl) ?_
                have HMB := Lib.hid (show MdB w ((wA.setCell ⟨wr.heap.size, 0, none⟩ (.int .u8 E)).drew) w.heap.size (w.heap.size + 1) #[.int .u8 p, .int .u64 f, .slice (some ad) xs.length c] (⟨3, 0, 0, 0, 0, 1, fi, 1, 1⟩ : Rec) rs (.slice A5 rs.length c5) (o :: os) (.slice (some ⟨bp, fp, pp⟩) (os.length + 1) c7) from md_drew (md_set HMA.out HNA.out hge 0 (.int .u8 E)))
                have HNB := Lib.hid (show ((wA.setCell ⟨wr.heap.size, 0, none⟩ (.int .u8 E)).drew).heap[wr.heap.size]? = _ from blk_set HNA.out 0 (.int .u8 E))
                clear hcA hHeld HMA HNA
                generalize (wA.setCell ⟨wr.heap.size, 0, none⟩ (.int .u8 E)).drew = wB at HMB HNB ⊢
                have n0 : wB.cell? ⟨wr.heap.size, 0, none⟩ = some (.int .u8 E) := (blk_cell HNB.out 0).trans rfl
                have n1 : wB.cell? ⟨wr.heap.size, 1, none⟩ = some (.int .u8 o) := (blk_cell HNB.out 1).trans rfl
                go_wp2_with (first | ((with_reducible refine gate_app (t := 52) rfl ?_); refine q_app_list w.heap.size rfl (.tmp 88) (.tmp 92) 52 51 Rec.zero.val 9 56 rfl Tryd.underlying52 info51b rfl (by decide) (by decide) (.slice A5 rs.length c5) rs.length (flatR rs) ⟨wB.heap.size, 0, none⟩ 1 1 ((⟨2, x.count, 0, E, o, 0, 0, 0, 0⟩ : Rec)).cells.toList rfl rfl (by decide) rfl (news_blk (heap_alloc_new wB _)) (by intro u hu; exact (Array.all_eq_true_iff_forall_mem.1 ((⟨2, x.count, 0, E, o, 0, 0, 0, 0⟩ : Rec)).ones) u (by simpa using hu)) (q_alloc HMB.out.q5 _) (by have := HMB.out.below.size; simp; omega) (by omega) ?_; intro v_ w5 hq hgr hat; have HM5 := Lib.hid (md_app5 (md_alloc HMB.out _) (⟨2, x.count, 0, E, o, 0, 0, 0, 0⟩ : Rec) hq hgr hat); obtain ⟨AL, cL, hv_, _⟩ := q_slice hq; subst hv_; clear hq hgr hat))
                obtain ⟨x1, e1, e2, hF1, hb1, hh1⟩ := HFS.out (⟨2, x.count, 0, E, o, 0, 0, 0, 0⟩ : Rec) (Or.inr (Or.inl ⟨rfl, rfl, hcb, hE, ho⟩)) ⟨rfl, rfl, rfl⟩
                exact ⟨⟨rs ++ [(⟨2, x.count, 0, E, o, 0, 0, 0, 0⟩ : Rec)], x1, by rw [e1], hF1, by simp, hb1, hh1, by rw [e2]; exact md_drop HM5.out, by rw [e2]; simp; omega, by rw [e1, e2]; omega, by rw [e2]; exact hos⟩, by simp [lenV]⟩
          · have hdf : (Go.bits .and .u16 s 64 != 0) = false := by simpa using hd
            go_wp2
            exact ⟨⟨k + 1, rs, x, by omega, by go_num, rfl, HF.out, hne, hbg, hhd, HM.out, hl1, by omega, hown⟩, by simp [intOf]; omega⟩
      · have d12 : decide ((x.owned.length : Int) < 12) = false := decide_eq_false (by omega)
        go_wp2_with fail
        go_loopw [5, 6, 7] (fun t5 t6 t7 wr => ∃ (rs : List Rec) (x : Sc), t6 = .int .u64 x.count ∧ Feed 1 Sc.start rs x ∧ rs ≠ [] ∧ x.begun = true ∧ x.head.player = pl ∧ MdB w wr w.heap.size (w.heap.size + 1) #[.int .u8 p, .int .u64 f, .slice (some ad) xs.length c] (⟨3, 0, 0, 0, 0, 1, fi, 1, pl⟩ : Rec) rs t5 x.owned t7 ∧ rs.length + x.owned.length ≤ 1 + 2 * (k + 1) ∧ x.count + x.owned.length ≤ fi + (k + 1) ∧ (∀ o ∈ x.owned, 0 ≤ o ∧ o < 64)) (fun _ _ t7 _ => lenV t7)
        case atStart =>
          exact ⟨rs, x, rfl, HF.out, hne, hbg, hhd, HM.out, by omega, by omega, hown⟩
        case round =>
          clear HM HF hl1 hl2 hown hne hbg hhd c12 hcs
          obtain ⟨rs, x, rfl, hF, hne, hbg, hhd, hM, hl1, hl2, hown⟩ := hrel
          obtain ⟨A5, c5, rfl, _⟩ := q_slice hM.q5
          obtain ⟨A7, c7, rfl, _⟩ := q_slice hM.q7
          have HM := Lib.hid hM
          have HF := Lib.hid hF
          have c12 : wr.cell? ⟨w.heap.size, 2, none⟩ = some (.slice (some ad) xs.length c) := blk_cell hM.h1 2
          have hcs : wr.cell? (ad.add k) = some (.int .u16 s) := cell_below HCel.out hM.below
          clear hM hF
          by_cases hd : (Go.bits .and .u16 s 64 != 0) = true
          · by_cases how : x.owned = []
            · have d0 : decide ((0 : Int) < (x.owned.length : Int)) = false := decide_eq_false (by rw [how]; decide)
              have d0n : decide (0 < x.owned.length) = false := decide_eq_false (by rw [how]; decide)
              go_wp2
              exact ⟨⟨k + 1, rs, x, by omega, by go_num, rfl, HF.out, hne, hbg, hhd, HM.out, hl1, by omega, hown⟩, by simp [intOf]; omega⟩
            · obtain ⟨o, os, how⟩ := List.exists_cons_of_ne_nil how
              have HFS := Lib.hid (show ∀ q : Rec, q.may → (q.kind = 2 ∧ q.frame = x.count ∧ q.pair pl = o) → ∃ x1 : Sc, x1.count = x.count + 1 ∧ x1.owned = os ∧ Feed 1 Sc.start (rs ++ [q]) x1 ∧ x1.begun = true ∧ x1.head.player = pl from by
                intro q hq ⟨q1, q2, q3⟩
                have hst : stakeS 1 x q = ({ x with count := x.count + 1, owned := os, l := x.l ++ [q] }, 0) := by
                  unfold stakeS
                  rw [if_neg (by omega), if_pos q1]
                  unfold sureS
                  rw [how]
                  simp only
                  rw [if_pos ⟨hbg, q2⟩, if_pos (by rw [hhd]; exact q3)]
                exact ⟨{ x with count := x.count + 1, owned := os, l := x.l ++ [q] }, rfl, rfl, HF.out.snoc hst hq, hbg, hhd⟩)
              have hgood := HF.out.good good_start
              have hfr := hgood.frames
              rw [how] at hl1 hl2 hown hfr
              have HM := Lib.hid (show MdB w wr w.heap.size (w.heap.size + 1) #[.int .u8 p, .int .u64 f, .slice (some ad) xs.length c] (⟨3, 0, 0, 0, 0, 1, fi, 1, pl⟩ : Rec) rs (.slice A5 rs.length c5) (o :: os) (.slice A7 (os.length + 1) c7) by have := HM.out; rw [how] at this; exact this)
              rw [show x.owned.length = os.length + 1 by rw [how]; rfl]
              have ho := hown o (by simp)
              have hos := fun o' (h : o' ∈ os) => hown o' (by simp [h])
              simp only [List.length_cons] at hl1 hl2 hfr
              obtain ⟨⟨bp, fp, pp⟩, rfl, hcp⟩ := q_cells HM.out.q7 (by simp)
              have o0 : wr.cell? ⟨bp, fp, pp⟩ = some (.int .u8 o) := hcp 0 _ rfl
              have s8 : wr.cell? ⟨w.heap.size + 1, 8, none⟩ = some (.int .u8 pl) := blk_cell HM.out.h4 8
              have d0 : decide ((0 : Int) < ((os.length + 1 : Nat) : Int)) = true := decide_eq_true (by omega)
              have hcnt : IntKind.u64.wrap (x.count + 1) = x.count + 1 := IntWalk.u64_in _ ⟨by omega, by omega⟩
              have hcb : 0 ≤ x.count ∧ x.count < 18446744073709551616 := ⟨by omega, by omega⟩
              clear hcp how hgood hfr
              rcases hpl with rfl | rfl
              · go_wp2_with fail
                have HM9 := Lib.hid (md_alloc HM.out (.cells #[.int .u8 0, .int .u8 0] 49))
                have HN9 := Lib.hid (heap_alloc_new wr (.cells #[.int .u8 0, .int .u8 0] 49))
                have o9 : (wr.alloc (.cells #[.int .u8 0, .int .u8 0] 49)).cell? ⟨bp, fp, pp⟩ = some (.int .u8 o) := cell_below o0 ((Below.refl wr.heap.size wr).alloc (Nat.le_refl _) _)
                have hge : w.heap.size ≤ wr.heap.size := HM.out.below.size
                clear o0 s8 c12 hcs
                generalize wr.alloc (.cells #[.int .u8 0, .int .u8 0] 49) = w9 at HM9 HN9 o9 ⊢
                refine start_ (n := 7) (S := (fun w' => w'.cell? ⟨w.heap.size + 1, 8, none⟩ = some (.int .u8 0) ∧ w'.cell? ⟨bp, fp, pp⟩ = some (.int .u8 o))) (ds := [6]) #[false, false, false, false, false, false, false] (by kernel_rfl) rfl rfl ⟨blk_cell HM9.out.h4 8, o9⟩ (fun hHeld => ?_)
                refine pure_ (i := 0) (N := some 70) (v := ?_) (a' := ?_) #[true, false, false, false, false, false, false] rfl rfl (by kernel_rfl) (fun _ _ _ h => h) (Or.inl ⟨by rfl, ?_⟩) ?_ ?_
                rotate_left
                · intro w'
                  go_simp
                  with_reducible rfl
                rotate_left
                · simp only [Act.put, List.setIfInBounds_toArray, List.set_cons_zero, List.set_cons_succ, i64_w, i32_w]
                  rfl
                refine take_ (i := 1) (N := some 71) (v := ?_) (a' := ?_) #[true, true, false, false, false, false, false] rfl rfl (by kernel_rfl) (fun _ _ _ h => h) (Or.inl ⟨by rfl, ?_⟩) hHeld ?_ ?_
                rotate_left
                · rintro w' ⟨s0, s1⟩
                  go_simp
                  with_reducible rfl
                rotate_left
                · simp only [Act.put, List.setIfInBounds_toArray, List.set_cons_zero, List.set_cons_succ, i64_w, i32_w]
                  rfl
                refine pure_ (i := 2) (N := some 72) (v := ?_) (a' := ?_) #[true, true, true, false, false, false, false] rfl rfl (by kernel_rfl) (fun _ _ _ h => h) (Or.inl ⟨by rfl, ?_⟩) ?_ ?_
                rotate_left
                · intro w'
                  go_simp
                  with_reducible rfl
                rotate_left
                · simp only [Act.put, List.setIfInBounds_toArray, List.set_cons_zero, List.set_cons_succ, i64_w, i32_w]
                  rfl
                refine pure_ (i := 3) (N := some 73) (v := ?_) (a' := ?_) #[true, true, true, true, false, false, false] rfl rfl (by kernel_rfl) (fun _ _ _ h => h) (Or.inl ⟨by rfl, ?_⟩) ?_ ?_
                rotate_left
                · intro w'
                  go_simp
                  with_reducible rfl
                rotate_left
                · simp only [Act.put, List.setIfInBounds_toArray, List.set_cons_zero, List.set_cons_succ, i64_w, i32_w]
                  rfl
                refine take_ (i := 4) (N := some 74) (v := ?_) (a' := ?_) #[true, true, true, true, true, false, false] rfl rfl (by kernel_rfl) (fun _ _ _ h => h) (Or.inl ⟨by rfl, ?_⟩) hHeld ?_ ?_
                rotate_left
                · rintro w' ⟨s0, s1⟩
                  go_simp
                  with_reducible rfl
                rotate_left
                · simp only [Act.put, List.setIfInBounds_toArray, List.set_cons_zero, List.set_cons_succ, i64_w, i32_w]
                  rfl
                refine pure_ (i := 5) (N := some 75) (v := ?_) (a' := ?_) #[true, true, true, true, true, true, false] rfl rfl (by kernel_rfl) (fun _ _ _ h => h) (Or.inl ⟨by rfl, ?_⟩) ?_ ?_
                rotate_left
                · intro w'
                  go_simp
                  with_reducible rfl
                rotate_left
                · simp only [Act.put, List.setIfInBounds_toArray, List.set_cons_zero, List.set_cons_succ, i64_w, i32_w]
                  rfl
                refine last_ (i := 6) (N := none) #[true, true, true, true, true, true, true] rfl rfl (by kernel_rfl) (by decide) (fun K hK => ?_)
                have t9 : w9.drew.cell? ⟨wr.heap.size, 0, none⟩ = some (.int .u8 0) := (blk_cell HN9.out 0).trans rfl
                have z9 : w9.drew.frozen? ⟨wr.heap.size, 0, none⟩ = false := blk_frozen HN9.out 0
                refine skip_ (w1 := ?_) (by rfl) rfl ?_ ?_
                rotate_left
                · go_simp
                  rfl
                refine hK.out _ _ ?_
                clear hK K t9 z9
                refine done_ (by kernel_rfl) ?_
                go_wp2_with fail
                have HMA := Lib.hid (md_drew (md_set HM9.out HN9.out hge 0 (.int .u8 o)))
                have HNA := Lib.hid (show ((w9.setCell ⟨wr.heap.size, 0, none⟩ (.int .u8 o)).drew).heap[wr.heap.size]? = _ from blk_set HN9.out 0 (.int .u8 o))
                clear HM9 HN9 o9 hHeld
                generalize (w9.setCell ⟨wr.heap.size, 0, none⟩ (.int .u8 o)).drew = wA at HMA HNA ⊢
                have hcA : wA.cell? (ad.add k) = some (.int .u16 s) := cell_below HCel.out HMA.out.below
                refine start_ (n := 13) (S := (fun w' => w'.cell? ⟨w.heap.size + 1, 8, none⟩ = some (.int .u8 0) ∧ w'.cell? ⟨w.heap.size, 2, none⟩ = some (.slice (some ad) xs.length c) ∧ w'.cell? (ad.add k) = some (.int .u16 s))) (ds := [12]) #[false, false, false, false, false, false, false, false, false, false, false, false, false] (by kernel_rfl) rfl rfl ⟨blk_cell HMA.out.h4 8, blk_cell HMA.out.h1 2, hcA⟩ (fun hHeld => ?_)
                refine pure_ (i := 0) (N := some 76) (v := ?_) (a' := ?_) #[true, false, false, false, false, false, false, false, false, false, false, false, false] rfl rfl (by kernel_rfl) (fun _ _ _ h => h) (Or.inl ⟨by rfl, ?_⟩) ?_ ?_
                rotate_left
                · intro w'
                  go_simp
                  with_reducible rfl
                rotate_left
                · simp only [Act.put, List.setIfInBounds_toArray, List.set_cons_zero, List.set_cons_succ, i64_w, i32_w]
                  rfl
                refine take_ (i := 1) (N := some 77) (v := ?_) (a' := ?_) #[true, true, false, false, false, false, false, false, false, false, false, false, false] rfl rfl (by kernel_rfl) (fun _ _ _ h => h) (Or.inl ⟨by rfl, ?_⟩) hHeld ?_ ?_
                rotate_left
                · rintro w' ⟨s0, s1, s2⟩
                  go_simp
                  with_reducible rfl
                rotate_left
                · simp only [Act.put, List.setIfInBounds_toArray, List.set_cons_zero, List.set_cons_succ, i64_w, i32_w]
                  rfl
                refine pure_ (i := 2) (N := some 78) (v := .int .u8 1) (a' := ?aa5) #[true, true, true, false, false, false, false, false, false, false, false, false, false] rfl rfl (by kernel_rfl) (fun _ _ _ h => h) (Or.inl ⟨by rfl, fun w' => by go_simp <;> rfl⟩) ?ha5 ?hm5
                case ha5 => simp only [Act.put, List.setIfInBounds_toArray, List.set_cons_zero, List.set_cons_succ, i64_w, i32_w]; rfl
                refine pure_ (i := 3) (N := some 79) (v := ?_) (a' := ?_) #[true, true, true, true, false, false, false, false, false, false, false, false, false] rfl rfl (by kernel_rfl) (fun _ _ _ h => h) (Or.inl ⟨by rfl, ?_⟩) ?_ ?_
                rotate_left
                · intro w'
                  go_simp
                  with_reducible rfl
                rotate_left
                · simp only [Act.put, List.setIfInBounds_toArray, List.set_cons_zero, List.set_cons_succ, i64_w, i32_w]
                  rfl
                refine take_ (i := 4) (N := some 80) (v := ?_) (a' := ?_) #[true, true, true, true, true, false, false, false, false, false, false, false, false] rfl rfl (by kernel_rfl) (fun _ _ _ h => h) (Or.inl ⟨by rfl, ?_⟩) hHeld ?_ ?_
                rotate_left
                · rintro w' ⟨s0, s1, s2⟩
                  go_simp
                  with_reducible rfl
                rotate_left
                · simp only [Act.put, List.setIfInBounds_toArray, List.set_cons_zero, List.set_cons_succ, i64_w, i32_w]
                  rfl
                refine pure_ (i := 5) (N := some 81) (v := ?_) (a' := ?_) #[true, true, true, true, true, true, false, false, false, false, false, false, false] rfl rfl (by kernel_rfl) (fun _ _ _ h => h) (Or.inl ⟨by rfl, ?_⟩) ?_ ?_
                rotate_left
                · intro w'
                  go_simp
                  with_reducible rfl
                rotate_left
                · simp only [Act.put, List.setIfInBounds_toArray, List.set_cons_zero, List.set_cons_succ, i64_w, i32_w]
                  rfl
                refine pure_ (i := 6) (N := some 82) (v := ?_) (a' := ?_) #[true, true, true, true, true, true, true, false, false, false, false, false, false] rfl rfl (by kernel_rfl) (fun _ _ _ h => h) (Or.inl ⟨by rfl, ?_⟩) ?_ ?_
                rotate_left
                · intro w'
                  go_simp
                  with_reducible rfl
                rotate_left
                · simp only [Act.put, List.setIfInBounds_toArray, List.set_cons_zero, List.set_cons_succ, i64_w, i32_w]
                  rfl
                refine take_ (i := 7) (N := some 83) (v := ?_) (a' := ?_) #[true, true, true, true, true, true, true, true, false, false, false, false, false] rfl rfl (by kernel_rfl) (fun _ _ _ h => h) (Or.inl ⟨by rfl, ?_⟩) hHeld ?_ ?_
                rotate_left
                · rintro w' ⟨s0, s1, s2⟩
                  go_simp
                  with_reducible rfl
                rotate_left
                · simp only [Act.put, List.setIfInBounds_toArray, List.set_cons_zero, List.set_cons_succ, i64_w, i32_w]
                  rfl
                refine pure_ (i := 8) (N := some 84) (v := ?_) (a' := ?_) #[true, true, true, true, true, true, true, true, true, false, false, false, false] rfl rfl (by kernel_rfl) (fun _ _ _ h => h) (Or.inl ⟨by rfl, ?_⟩) ?_ ?_
                rotate_left
                · intro w'
                  go_simp
                  with_reducible rfl
                rotate_left
                · simp only [Act.put, List.setIfInBounds_toArray, List.set_cons_zero, List.set_cons_succ, i64_w, i32_w]
                  rfl
                refine pure_ (i := 9) (N := some 85) (v := ?_) (a' := ?_) #[true, true, true, true, true, true, true, true, true, true, false, false, false] rfl rfl (by kernel_rfl) (fun _ _ _ h => h) (Or.inl ⟨by rfl, ?_⟩) ?_ ?_
                rotate_left
                · intro w'
                  go_simp
                  with_reducible rfl
                rotate_left
                · simp only [Act.put, List.setIfInBounds_toArray, List.set_cons_zero, List.set_cons_succ, i64_w, i32_w]
                  rfl
                refine pure_ (i := 10) (N := some 86) (v := .int .u8 E) (a' := ?aa6) #[true, true, true, true, true, true, true, true, true, true, true, false, false] rfl rfl (by kernel_rfl) (fun _ _ _ h => h) (Or.inl ⟨by rfl, fun w' => by go_simp <;> exact hEe⟩) ?ha6 ?hm6
                case ha6 => simp only [Act.put, List.setIfInBounds_toArray, List.set_cons_zero, List.set_cons_succ, i64_w, i32_w]; rfl
                refine pure_ (i := 11) (N := some 87) (v := ?_) (a' := ?_) #[true, true, true, true, true, true, true, true, true, true, true, true, false] rfl rfl (by kernel_rfl) (fun _ _ _ h => h) (Or.inl ⟨by rfl, ?_⟩) ?_ ?_
                rotate_left
                · intro w'
                  go_simp
                  with_reducible rfl
                rotate_left
                · simp only [Act.put, List.setIfInBounds_toArray, List.set_cons_zero, List.set_cons_succ, i64_w, i32_w]
                  rfl
                refine last_ (i := 12) (N := none) #[true, true, true, true, true, true, true, true, true, true, true, true, true] rfl rfl (by kernel_rfl) (by decide) (fun K hK => ?_)
                have t9 : wA.drew.cell? ⟨wr.heap.size, 1, none⟩ = some (.int .u8 0) := (blk_cell HNA.out 1).trans rfl
                have z9 : wA.drew.frozen? ⟨wr.heap.size, 1, none⟩ = false := blk_frozen HNA.out 1
                refine skip_ (w1 := ?_) (by rfl) rfl ?_ ?_
                rotate_left
                · go_simp
                  rfl
                refine hK.out _ _ ?_
                clear hK K t9 z9
                refine done_ (by kernel_rfl) ?_
                have HMB := Lib.hid (show MdB w ((wA.setCell ⟨wr.heap.size, 1, none⟩ (.int .u8 E)).drew) w.heap.size (w.heap.size + 1) #[.int .u8 p, .int .u64 f, .slice (some ad) xs.length c] (⟨3, 0, 0, 0, 0, 1, fi, 1, 0⟩ : Rec) rs (.slice A5 rs.length c5) (o :: os) (.slice (some ⟨bp, fp, pp⟩) (os.length + 1) c7) from md_drew (md_set HMA.out HNA.out hge 1 (.int .u8 E)))
                have HNB := Lib.hid (show ((wA.setCell ⟨wr.heap.size, 1, none⟩ (.int .u8 E)).drew).heap[wr.heap.size]? = _ from blk_set HNA.out 1 (.int .u8 E))
                clear hcA hHeld HMA HNA
                generalize (wA.setCell ⟨wr.heap.size, 1, none⟩ (.int .u8 E)).drew = wB at HMB HNB ⊢
                have n0 : wB.cell? ⟨wr.heap.size, 0, none⟩ = some (.int .u8 o) := (blk_cell HNB.out 0).trans rfl
                have n1 : wB.cell? ⟨wr.heap.size, 1, none⟩ = some (.int .u8 E) := (blk_cell HNB.out 1).trans rfl
                go_wp2_with (first | ((with_reducible refine gate_app (t := 52) rfl ?_); refine q_app_list w.heap.size rfl (.tmp 88) (.tmp 92) 52 51 Rec.zero.val 9 56 rfl Tryd.underlying52 info51b rfl (by decide) (by decide) (.slice A5 rs.length c5) rs.length (flatR rs) ⟨wB.heap.size, 0, none⟩ 1 1 ((⟨2, x.count, 0, o, E, 0, 0, 0, 0⟩ : Rec)).cells.toList rfl rfl (by decide) rfl (news_blk (heap_alloc_new wB _)) (by intro u hu; exact (Array.all_eq_true_iff_forall_mem.1 ((⟨2, x.count, 0, o, E, 0, 0, 0, 0⟩ : Rec)).ones) u (by simpa using hu)) (q_alloc HMB.out.q5 _) (by have := HMB.out.below.size; simp; omega) (by omega) ?_; intro v_ w5 hq hgr hat; have HM5 := Lib.hid (md_app5 (md_alloc HMB.out _) (⟨2, x.count, 0, o, E, 0, 0, 0, 0⟩ : Rec) hq hgr hat); obtain ⟨AL, cL, hv_, _⟩ := q_slice hq; subst hv_; clear hq hgr hat))
                obtain ⟨x1, e1, e2, hF1, hb1, hh1⟩ := HFS.out (⟨2, x.count, 0, o, E, 0, 0, 0, 0⟩ : Rec) (Or.inr (Or.inl ⟨rfl, rfl, hcb, ho, hE⟩)) ⟨rfl, rfl, rfl⟩
                exact ⟨⟨rs ++ [(⟨2, x.count, 0, o, E, 0, 0, 0, 0⟩ : Rec)], x1, by rw [e1], hF1, by simp, hb1, hh1, by rw [e2]; exact md_drop HM5.out, by rw [e2]; simp; omega, by rw [e1, e2]; omega, by rw [e2]; exact hos⟩, by simp [lenV]⟩
              · go_wp2_with fail
                have HM9 := Lib.hid (md_alloc HM.out (.cells #[.int .u8 0, .int .u8 0] 49))
                have HN9 := Lib.hid (heap_alloc_new wr (.cells #[.int .u8 0, .int .u8 0] 49))
                have o9 : (wr.alloc (.cells #[.int .u8 0, .int .u8 0] 49)).cell? ⟨bp, fp, pp⟩ = some (.int .u8 o) := cell_below o0 ((Below.refl wr.heap.size wr).alloc (Nat.le_refl _) _)
                have hge : w.heap.size ≤ wr.heap.size := HM.out.below.size
                clear o0 s8 c12 hcs
                generalize wr.alloc (.cells #[.int .u8 0, .int .u8 0] 49) = w9 at HM9 HN9 o9 ⊢
                refine start_ (n := 7) (S := (fun w' => w'.cell? ⟨w.heap.size + 1, 8, none⟩ = some (.int .u8 1) ∧ w'.cell? ⟨bp, fp, pp⟩ = some (.int .u8 o))) (ds := [6]) #[false, false, false, false, false, false, false] (by kernel_rfl) rfl rfl ⟨blk_cell HM9.out.h4 8, o9⟩ (fun hHeld => ?_)
                refine pure_ (i := 0) (N := some 70) (v := ?_) (a' := ?_) #[true, false, false, false, false, false, false] rfl rfl (by kernel_rfl) (fun _ _ _ h => h) (Or.inl ⟨by rfl, ?_⟩) ?_ ?_
                rotate_left
                · intro w'
                  go_simp
                  with_reducible rfl
                rotate_left
                · simp only [Act.put, List.setIfInBounds_toArray, List.set_cons_zero, List.set_cons_succ, i64_w, i32_w]
                  rfl
                refine take_ (i := 1) (N := some 71) (v := ?_) (a' := ?_) #[true, true, false, false, false, false, false] rfl rfl (by kernel_rfl) (fun _ _ _ h => h) (Or.inl ⟨by rfl, ?_⟩) hHeld ?_ ?_
                rotate_left
                · rintro w' ⟨s0, s1⟩
                  go_simp
                  with_reducible rfl
                rotate_left
                · simp only [Act.put, List.setIfInBounds_toArray, List.set_cons_zero, List.set_cons_succ, i64_w, i32_w]
                  rfl
                refine pure_ (i := 2) (N := some 72) (v := ?_) (a' := ?_) #[true, true, true, false, false, false, false] rfl rfl (by kernel_rfl) (fun _ _ _ h => h) (Or.inl ⟨by rfl, ?_⟩) ?_ ?_
                rotate_left
                · intro w'
                  go_simp
                  with_reducible rfl
                rotate_left
                · simp only [Act.put, List.setIfInBounds_toArray, List.set_cons_zero, List.set_cons_succ, i64_w, i32_w]
                  rfl
                refine pure_ (i := 3) (N := some 73) (v := ?_) (a' := ?_) #[true, true, true, true, false, false, false] rfl rfl (by kernel_rfl) (fun _ _ _ h => h) (Or.inl ⟨by rfl, ?_⟩) ?_ ?_
                rotate_left
                · intro w'
                  go_simp
                  with_reducible rfl
                rotate_left
                · simp only [Act.put, List.setIfInBounds_toArray, List.set_cons_zero, List.set_cons_succ, i64_w, i32_w]
                  rfl
                refine take_ (i := 4) (N := some 74) (v := ?_) (a' := ?_) #[true, true, true, true, true, false, false] rfl rfl (by kernel_rfl) (fun _ _ _ h => h) (Or.inl ⟨by rfl, ?_⟩) hHeld ?_ ?_
                rotate_left
                · rintro w' ⟨s0, s1⟩
                  go_simp
                  with_reducible rfl
                rotate_left
                · simp only [Act.put, List.setIfInBounds_toArray, List.set_cons_zero, List.set_cons_succ, i64_w, i32_w]
                  rfl
                refine pure_ (i := 5) (N := some 75) (v := ?_) (a' := ?_) #[true, true, true, true, true, true, false] rfl rfl (by kernel_rfl) (fun _ _ _ h => h) (Or.inl ⟨by rfl, ?_⟩) ?_ ?_
                rotate_left
                · intro w'
                  go_simp
                  with_reducible rfl
                rotate_left
                · simp only [Act.put, List.setIfInBounds_toArray, List.set_cons_zero, List.set_cons_succ, i64_w, i32_w]
                  rfl
                refine last_ (i := 6) (N := none) #[true, true, true, true, true, true, true] rfl rfl (by kernel_rfl) (by decide) (fun K hK => ?_)
                have t9 : w9.drew.cell? ⟨wr.heap.size, 1, none⟩ = some (.int .u8 0) := (blk_cell HN9.out 1).trans rfl
                have z9 : w9.drew.frozen? ⟨wr.heap.size, 1, none⟩ = false := blk_frozen HN9.out 1
                refine skip_ (w1 := ?_) (by rfl) rfl ?_ ?_
                rotate_left
                · go_simp
                  rfl
                refine hK.out _ _ ?_
                clear hK K t9 z9
                refine done_ (by kernel_rfl) ?_
                go_wp2_with fail
                have HMA := Lib.hid (md_drew (md_set HM9.out HN9.out hge 1 (.int .u8 o)))
                have HNA := Lib.hid (show ((w9.setCell ⟨wr.heap.size, 1, none⟩ (.int .u8 o)).drew).heap[wr.heap.size]? = _ from blk_set HN9.out 1 (.int .u8 o))
                clear HM9 HN9 o9 hHeld
                generalize (w9.setCell ⟨wr.heap.size, 1, none⟩ (.int .u8 o)).drew = wA at HMA HNA ⊢
                have hcA : wA.cell? (ad.add k) = some (.int .u16 s) := cell_below HCel.out HMA.out.below
                refine start_ (n := 13) (S := (fun w' => w'.cell? ⟨w.heap.size + 1, 8, none⟩ = some (.int .u8 1) ∧ w'.cell? ⟨w.heap.size, 2, none⟩ = some (.slice (some ad) xs.length c) ∧ w'.cell? (ad.add k) = some (.int .u16 s))) (ds := [12]) #[false, false, false, false, false, false, false, false, false, false, false, false, false] (by kernel_rfl) rfl rfl ⟨blk_cell HMA.out.h4 8, blk_cell HMA.out.h1 2, hcA⟩ (fun hHeld => ?_)
                refine pure_ (i := 0) (N := some 76) (v := ?_) (a' := ?_) #[true, false, false, false, false, false, false, false, false, false, false, false, false] rfl rfl (by kernel_rfl) (fun _ _ _ h => h) (Or.inl ⟨by rfl, ?_⟩) ?_ ?_
                rotate_left
                · intro w'
                  go_simp
                  with_reducible rfl
                rotate_left
                · simp only [Act.put, List.setIfInBounds_toArray, List.set_cons_zero, List.set_cons_succ, i64_w, i32_w]
                  rfl
                refine take_ (i := 1) (N := some 77) (v := ?_) (a' := ?_) #[true, true, false, false, false, false, false, false, false, false, false, false, false] rfl rfl (by kernel_rfl) (fun _ _ _ h => h) (Or.inl ⟨by rfl, ?_⟩) hHeld ?_ ?_
                rotate_left
                · rintro w' ⟨s0, s1, s2⟩
                  go_simp
                  with_reducible rfl
                rotate_left
                · simp only [Act.put, List.setIfInBounds_toArray, List.set_cons_zero, List.set_cons_succ, i64_w, i32_w]
                  rfl
                refine pure_ (i := 2) (N := some 78) (v := .int .u8 0) (a' := ?aa7) #[true, true, true, false, false, false, false, false, false, false, false, false, false] rfl rfl (by kernel_rfl) (fun _ _ _ h => h) (Or.inl ⟨by rfl, fun w' => by go_simp <;> rfl⟩) ?ha7 ?hm7
                case ha7 => simp only [Act.put, List.setIfInBounds_toArray, List.set_cons_zero, List.set_cons_succ, i64_w, i32_w]; rfl
                refine pure_ (i := 3) (N := some 79) (v := ?_) (a' := ?_) #[true, true, true, true, false, false, false, false, false, false, false, false, false] rfl rfl (by kernel_rfl) (fun _ _ _ h => h) (Or.inl ⟨by rfl, ?_⟩) ?_ ?_
                rotate_left
                · intro w'
                  go_simp
                  with_reducible rfl
                rotate_left
                · simp only [Act.put, List.setIfInBounds_toArray, List.set_cons_zero, List.set_cons_succ, i64_w, i32_w]
                  rfl
                refine take_ (i := 4) (N := some 80) (v := ?_) (a' := ?_) #[true, true, true, true, true, false, false, false, false, false, false, false, false] rfl rfl (by kernel_rfl) (fun _ _ _ h => h) (Or.inl ⟨by rfl, ?_⟩) hHeld ?_ ?_
                rotate_left
                · rintro w' ⟨s0, s1, s2⟩
                  go_simp
                  with_reducible rfl
                rotate_left
                · simp only [Act.put, List.setIfInBounds_toArray, List.set_cons_zero, List.set_cons_succ, i64_w, i32_w]
                  rfl
                refine pure_ (i := 5) (N := some 81) (v := ?_) (a' := ?_) #[true, true, true, true, true, true, false, false, false, false, false, false, false] rfl rfl (by kernel_rfl) (fun _ _ _ h => h) (Or.inl ⟨by rfl, ?_⟩) ?_ ?_
                rotate_left
                · intro w'
                  go_simp
                  with_reducible rfl
                rotate_left
                · simp only [Act.put, List.setIfInBounds_toArray, List.set_cons_zero, List.set_cons_succ, i64_w, i32_w]
                  rfl
                refine pure_ (i := 6) (N := some 82) (v := ?_) (a' := ?_) #[true, true, true, true, true, true, true, false, false, false, false, false, false] rfl rfl (by kernel_rfl) (fun _ _ _ h => h) (Or.inl ⟨by rfl, ?_⟩) ?_ ?_
                rotate_left
                · intro w'
                  go_simp
                  with_reducible rfl
                rotate_left
                · simp only [Act.put, List.setIfInBounds_toArray, List.set_cons_zero, List.set_cons_succ, i64_w, i32_w]
                  rfl
                refine take_ (i := 7) (N := some 83) (v := ?_) (a' := ?_) #[true, true, true, true, true, true, true, true, false, false, false, false, false] rfl rfl (by kernel_rfl) (fun _ _ _ h => h) (Or.inl ⟨by rfl, ?_⟩) hHeld ?_ ?_
                rotate_left
                · rintro w' ⟨s0, s1, s2⟩
                  go_simp
                  with_reducible rfl
                rotate_left
                · simp only [Act.put, List.setIfInBounds_toArray, List.set_cons_zero, List.set_cons_succ, i64_w, i32_w]
                  rfl
                refine pure_ (i := 8) (N := some 84) (v := ?_) (a' := ?_) #[true, true, true, true, true, true, true, true, true, false, false, false, false] rfl rfl (by kernel_rfl) (fun _ _ _ h => h) (Or.inl ⟨by rfl, ?_⟩) ?_ ?_
                rotate_left
                · intro w'
                  go_simp
                  with_reducible rfl
                rotate_left
                · simp only [Act.put, List.setIfInBounds_toArray, List.set_cons_zero, List.set_cons_succ, i64_w, i32_w]
                  rfl
                refine pure_ (i := 9) (N := some 85) (v := ?_) (a' := ?_) #[true, true, true, true, true, true, true, true, true, true, false, false, false] rfl rfl (by kernel_rfl) (fun _ _ _ h => h) (Or.inl ⟨by rfl, ?_⟩) ?_ ?_
                rotate_left
                · intro w'
                  go_simp
                  with_reducible rfl
                rotate_left
                · simp only [Act.put, List.setIfInBounds_toArray, List.set_cons_zero, List.set_cons_succ, i64_w, i32_w]
                  rfl
                refine pure_ (i := 10) (N := some 86) (v := .int .u8 E) (a' := ?aa8) #[true, true, true, true, true, true, true, true, true, true, true, false, false] rfl rfl (by kernel_rfl) (fun _ _ _ h => h) (Or.inl ⟨by rfl, fun w' => by go_simp <;> exact hEe⟩) ?ha8 ?hm8
                case ha8 => simp only [Act.put, List.setIfInBounds_toArray, List.set_cons_zero, List.set_cons_succ, i64_w, i32_w]; rfl
                refine pure_ (i := 11) (N := some 87) (v := ?_) (a' := ?_) #[true, true, true, true, true, true, true, true, true, true, true, true, false] rfl rfl (by kernel_rfl) (fun _ _ _ h => h) (Or.inl ⟨by rfl, ?_⟩) ?_ ?_
                rotate_left
                · intro w'
                  go_simp
                  with_reducible rfl
                rotate_left
                · simp only [Act.put, List.setIfInBounds_toArray, List.set_cons_zero, List.set_cons_succ, i64_w, i32_w]
                  rfl
                refine last_ (i := 12) (N := none) #[true, true, true, true, true, true, true, true, true, true, true, true, true] rfl rfl (by kernel_rfl) (by decide) (fun K hK => ?_)
                have t9 : wA.drew.cell? ⟨wr.heap.size, 0, none⟩ = some (.int .u8 0) := (blk_cell HNA.out 0).trans rfl
                have z9 : wA.drew.frozen? ⟨wr.heap.size, 0, none⟩ = false := blk_frozen HNA.out 0
                refine skip_ (w1 := ?_) (by rfl) rfl ?_ ?_
                rotate_left
                · go_simp
                  rfl
                refine hK.out _ _ ?_
                clear hK K t9 z9
                refine done_ (by kernel_rfl) ?_
                have HMB := Lib.hid (show MdB w ((wA.setCell ⟨wr.heap.size, 0, none⟩ (.int .u8 E)).drew) w.heap.size (w.heap.size + 1) #[.int .u8 p, .int .u64 f, .slice (some ad) xs.length c] (⟨3, 0, 0, 0, 0, 1, fi, 1, 1⟩ : Rec) rs (.slice A5 rs.length c5) (o :: os) (.slice (some ⟨bp, fp, pp⟩) (os.length + 1) c7) from md_drew (md_set HMA.out HNA.out hge 0 (.int .u8 E)))
                have HNB := Lib.hid (show ((wA.setCell ⟨wr.heap.size, 0, none⟩ (.int .u8 E)).drew).heap[wr.heap.size]? = _ from blk_set HNA.out 0 (.int .u8 E))
                clear hcA hHeld HMA HNA
                generalize (wA.setCell ⟨wr.heap.size, 0, none⟩ (.int .u8 E)).drew = wB at HMB HNB ⊢
                have n0 : wB.cell? ⟨wr.heap.size, 0, none⟩ = some (.int .u8 E) := (blk_cell HNB.out 0).trans rfl
                have n1 : wB.cell? ⟨wr.heap.size, 1, none⟩ = some (.int .u8 o) := (blk_cell HNB.out 1).trans rfl
                go_wp2_with (first | ((with_reducible refine gate_app (t := 52) rfl ?_); refine q_app_list w.heap.size rfl (.tmp 88) (.tmp 92) 52 51 Rec.zero.val 9 56 rfl Tryd.underlying52 info51b rfl (by decide) (by decide) (.slice A5 rs.length c5) rs.length (flatR rs) ⟨wB.heap.size, 0, none⟩ 1 1 ((⟨2, x.count, 0, E, o, 0, 0, 0, 0⟩ : Rec)).cells.toList rfl rfl (by decide) rfl (news_blk (heap_alloc_new wB _)) (by intro u hu; exact (Array.all_eq_true_iff_forall_mem.1 ((⟨2, x.count, 0, E, o, 0, 0, 0, 0⟩ : Rec)).ones) u (by simpa using hu)) (q_alloc HMB.out.q5 _) (by have := HMB.out.below.size; simp; omega) (by omega) ?_; intro v_ w5 hq hgr hat; have HM5 := Lib.hid (md_app5 (md_alloc HMB.out _) (⟨2, x.count, 0, E, o, 0, 0, 0, 0⟩ : Rec) hq hgr hat); obtain ⟨AL, cL, hv_, _⟩ := q_slice hq; subst hv_; clear hq hgr hat))
                obtain ⟨x1, e1, e2, hF1, hb1, hh1⟩ := HFS.out (⟨2, x.count, 0, E, o, 0, 0, 0, 0⟩ : Rec) (Or.inr (Or.inl ⟨rfl, rfl, hcb, hE, ho⟩)) ⟨rfl, rfl, rfl⟩
                exact ⟨⟨rs ++ [(⟨2, x.count, 0, E, o, 0, 0, 0, 0⟩ : Rec)], x1, by rw [e1], hF1, by simp, hb1, hh1, by rw [e2]; exact md_drop HM5.out, by rw [e2]; simp; omega, by rw [e1, e2]; omega, by rw [e2]; exact hos⟩, by simp [lenV]⟩
          · have hdf : (Go.bits .and .u16 s 64 != 0) = false := by simpa using hd
            go_wp2
            exact ⟨⟨k + 1, rs, x, by omega, by go_num, rfl, HF.out, hne, hbg, hhd, HM.out, hl1, by omega, hown⟩, by simp [intOf]; omega⟩
    · have hltb : decide ((k : Int) < (xs.length : Int)) = false := decide_eq_false (by omega)
      go_wp2
      go_ret
      exact ⟨_, rs, x, rfl, HM.out.q5, HF.out, hne, by omega, HM.out.below⟩
end Go.Proofs.YtnhjhaphfdlkfaaDoor.Sg
