/- The scanner's sure. -/
import Derived.Test.YtnhjhaphfdlkfaaDoorRMc
set_option linter.unusedVariables false
set_option linter.unusedSimpArgs false
namespace Go.Proofs.YtnhjhaphfdlkfaaDoor.Sg
open Go.RowKit Go.Proofs.YtnhjhaphfdlkfaaDoor.HF Go.Proofs.YtnhjhaphfdlkfaaDoor.SB Go.Proofs.YtnhjhaphfdlkfaaDoorW.PrintWords Go.Proofs.YtnhjhaphfdlkfaaDoorW.PrintLast Go.Proofs.YtnhjhaphfdlkfaaDoorW.PrintMore
theorem mid_dropO {w w' : World} {base g : Nat} {n : Int} {x : Sc} {r : Rec} {vl vo vl' : Value} {F : Nat → Prop} {L : List Rec} {o : Int} {os : List Int} {bo fo co : Nat} {po : Option Nat} (h : Mid w base g n x r vl vo F w' L (o :: os) vl' (.slice (some ⟨bo, fo, po⟩) (os.length + 1) co)) : Mid w base g n x r vl vo F w' L os vl' (.slice (if co = 1 then some ⟨bo, fo, po⟩ else some ⟨bo, fo + 1, none⟩) os.length (co - 1)) :=
  ⟨h.hg, h.hr, h.ql, q_drop (k := 1) h.qo (by simp), h.kept, h.below, h.al, fun k e => h.ao k (by split at e <;> exact e)⟩
theorem mid_dropO1 {w w' : World} {base g : Nat} {n : Int} {x : Sc} {r : Rec} {vl vo vl' : Value} {F : Nat → Prop} {L : List Rec} {o : Int} {os : List Int} {bo fo co : Nat} {po : Option Nat} (hc : co = 1) (h : Mid w base g n x r vl vo F w' L (o :: os) vl' (.slice (some ⟨bo, fo, po⟩) (os.length + 1) co)) : Mid w base g n x r vl vo F w' L os vl' (.slice (some ⟨bo, fo, po⟩) os.length 0) := by
  have := mid_dropO h
  rw [if_pos hc, hc] at this
  exact this
theorem mid_dropO2 {w w' : World} {base g : Nat} {n : Int} {x : Sc} {r : Rec} {vl vo vl' : Value} {F : Nat → Prop} {L : List Rec} {o : Int} {os : List Int} {bo fo co : Nat} {po : Option Nat} (hc : ¬ co = 1) (h : Mid w base g n x r vl vo F w' L (o :: os) vl' (.slice (some ⟨bo, fo, po⟩) (os.length + 1) co)) : Mid w base g n x r vl vo F w' L os vl' (.slice (some ⟨bo, fo + 1, none⟩) os.length (co - 1)) := by
  have := mid_dropO h
  rw [if_neg hc] at this
  exact this
/-- Of a record's pair, one. -/
def Rec.pair (r : Rec) (i : Int) : Int := if i = 0 then r.p0 else r.p1
def sureS (x : Sc) (r : Rec) : Sc × Int := match x.owned with
  | [] => (x, 11)
  | o :: os => if x.begun = true ∧ r.frame = x.count then if r.pair x.head.player = o then ({ x with count := x.count + 1, owned := os, l := x.l ++ [r] }, 0) else (x, 14) else (x, 11)
set_option maxHeartbeats 4000000 in
set_option maxRecDepth 100000 in
theorem sure_calls (w : World) (base g : Nat) (n : Int) (x : Sc) (F : Nat → Prop) (h : IsSc w base g n x F) (hbw : base ≤ w.heap.size) (r : Rec) (hc : 0 ≤ x.count ∧ x.count + x.owned.length < 18446744073709551616) (hll : x.l.length ≤ 100000) (hp : x.head.player = 0 ∨ x.head.player = 1) :
    Calls Tryd.prog 74 #[.pointer (some ⟨g, 0, none⟩), r.val] w fun e w' => e = .returned (.int .i64 (sureS x r).2) ∧ DidSc w w' base g n (sureS x r).1 F := by
  obtain ⟨vl, vo, h1, h2, h3, h4, h5, h6, h7⟩ := h
  have hg := h7 g h4
  have c4 : w.cell? ⟨g, 12, none⟩ = some (.int .u64 x.count) := blk_cell h1 12
  have c11 : w.cell? ⟨g, 11, none⟩ = some (.bool x.begun) := blk_cell h1 11
  have c9 : w.cell? ⟨g, 9, none⟩ = some (.int .u8 x.head.player) := blk_cell h1 9
  obtain ⟨Ao, co, rfl, hoc⟩ := q_slice h3
  obtain ⟨Al, cl, rfl, hlc⟩ := q_slice h2
  have c13 : w.cell? ⟨g, 13, none⟩ = some (.slice Ao x.owned.length co) := blk_cell h1 13
  have c10 : w.cell? ⟨g, 10, none⟩ = some (.slice Al x.l.length cl) := blk_cell h1 10
  have hne : g ≠ w.heap.size := by omega
  have hlt := hg.2
  have HB1 := Lib.hid h1
  have H2 := Lib.hid h2
  have H3 := Lib.hid h3
  clear h1 h2 h3
  have HDid := Lib.hid (fun m => sc_set (w := w) (w' := (w.alloc (.cells r.cells 51)).drewN m) (n := n) (x := x) (x' := x) H2.out H3.out h4 h5 h6 h7 ⟨_, HB1.out⟩ (blk_alloc HB1.out _) (((Kept.refl w _).alloc _).drewN _) (pw_below_drewN ((Below.refl base w).alloc hbw _) _) rfl rfl)
  have HDid2 := Lib.hid (fun m k => sc_set (w := w) (w' := ((w.alloc (.cells r.cells 51)).drewN m).drewN k) (n := n) (x := x) (x' := x) H2.out H3.out h4 h5 h6 h7 ⟨_, HB1.out⟩ (blk_alloc HB1.out _) ((((Kept.refl w _).alloc _).drewN _).drewN _) (pw_below_drewN (pw_below_drewN ((Below.refl base w).alloc hbw _) _) _) rfl rfl)
  unfold Rec.val Rec.cells
  cases hbeg : x.begun
  · rw [hbeg] at c11
    have HS := Lib.hid (show sureS x r = (x, 11) by unfold sureS; split; rfl; exact if_neg (by rw [hbeg]; simp))
    clear hbeg
    go_enter Tryd.func74, Tryd.ntmps74
    go_wp2_with fail
    go_quiet (fail)
    go_wp2
    go_ret
    rw [HS.out]
    exact ⟨rfl, HDid.out _⟩
  · rw [hbeg] at c11
    by_cases hfr : r.frame = x.count
    · have dfr : (r.frame != x.count) = false := by simp [hfr]
      cases hown : x.owned with
      | nil =>
        rw [hown] at c13
        have c13' : w.cell? ⟨g, 13, none⟩ = some (.slice Ao 0 co) := c13
        clear c13
        have HS := Lib.hid (show sureS x r = (x, 11) by unfold sureS; rw [hown])
        clear hbeg hfr hown
        go_enter Tryd.func74, Tryd.ntmps74
        go_wp2_with fail
        go_quiet (fail)
        go_wp2
        go_ret
        rw [HS.out]
        exact ⟨rfl, HDid.out _⟩
      | cons o os =>
        have hol : x.owned.length = os.length + 1 := by rw [hown]; rfl
        have d0 : (((os.length + 1 : Nat) : Int) == 0) = false := beq_eq_false_iff_ne.2 (by omega)
        have hcnt : IntKind.u64.wrap (x.count + 1) = x.count + 1 := IntWalk.u64_in _ ⟨by omega, by omega⟩
        obtain ⟨⟨bo, fo, po⟩, rfl, hco⟩ := q_cells H3.out (by omega)
        have co0 : w.cell? ⟨bo, fo, po⟩ = some (.int .u8 o) := hco 0 _ (by rw [hown]; rfl)
        clear hco
        have hbo := q_lt H3.out bo rfl
        have hneo : bo ≠ w.heap.size := by omega
        have HB2 := Lib.hid (show w.heap[g]? = some (.cells (scCells n x (.slice Al x.l.length cl) (.slice (some ⟨bo, fo, po⟩) (os.length + 1) co)) 102 (0, 0)) by have := HB1.out; rw [hol] at this; exact this)
        have H3o := Lib.hid (show QRow w base 47 1 (.slice (some ⟨bo, fo, po⟩) (os.length + 1) co) (o :: os).length (nums .u8 (o :: os)) by have := H3.out; rw [hown] at this; exact this)
        have hgl : ∀ k, (Value.slice Al x.l.length cl).ownBlock = some k → k ≠ g := fun k e hkg => by
          subst hkg
          obtain ⟨_, cells, hc⟩ := q_typed H2.out k e
          rw [HB1.out] at hc; simp at hc
        have hgo : ∀ k, (Value.slice (some ⟨bo, fo, po⟩) (os.length + 1) co).ownBlock = some k → k ≠ g := fun k e hkg => by
          subst hkg
          obtain ⟨_, cells, hc⟩ := q_typed H3o.out k e
          rw [HB1.out] at hc; simp at hc
        have d1 : (1 : Int) ≤ (os.length : Int) + 1 := by omega
        rw [hol] at c13
        have c3 : (w.alloc (.cells r.cells 51)).cell? ⟨w.heap.size, 3, none⟩ = some (.int .u8 r.p0) := blk_cell (heap_alloc_new w _) 3
        by_cases hpo : r.pair x.head.player = o
        · have HS := Lib.hid (show sureS x r = ({ x with count := x.count + 1, owned := os, l := x.l ++ [r] }, 0) by unfold sureS; rw [hown]; exact (if_pos ⟨hbeg, hfr⟩).trans (if_pos hpo))
          have hpo' := hpo
          clear c3
          have dpo : (x.head.player = 0 ∧ (r.p0 != o) = false) ∨ (x.head.player = 1 ∧ (r.p1 != o) = false) := by
            rcases hp with hp | hp
            · exact Or.inl ⟨hp, by rw [hp] at hpo; simpa [Rec.pair] using hpo⟩
            · exact Or.inr ⟨hp, by rw [hp] at hpo; simpa [Rec.pair] using hpo⟩
          clear hbeg hown hp hpo hfr
          rcases dpo with ⟨hp, dpo⟩ | ⟨hp, dpo⟩ <;> rw [hp] at c9
          all_goals
            have z12 : w.frozen? ⟨g, 12, none⟩ = false := blk_frozen HB1.out 12
            go_enter Tryd.func74, Tryd.ntmps74
            go_wp2_with fail
            go_quiet (fail)
            revert nq
            intro nq1
            go_wp2_with fail
            go_quiet (fail)
            go_wp2_with fail
            have hvl : ∀ k, (Value.slice Al x.l.length cl).ownBlock = some k → F k ∧ k < w.heap.size := fun k e => ⟨h5 k e, (h7 k (h5 k e)).2⟩
            have hvo : ∀ k, (Value.slice (some ⟨bo, fo, po⟩) (os.length + 1) co).ownBlock = some k → F k ∧ k < w.heap.size := fun k e => ⟨h6 k e, (h7 k (h6 k e)).2⟩
            have HM1 := Lib.hid (show Mid w base g n { x with count := x.count + 1 } r (.slice Al x.l.length cl) (.slice (some ⟨bo, fo, po⟩) (os.length + 1) co) F (((w.alloc (.cells #[.int .i64 r.kind, .int .u64 r.frame, .int .u8 r.own, .int .u8 r.p0, .int .u8 r.p1, .int .u64 r.seg, .int .u64 r.first, .int .u64 r.epoch, .int .u8 r.player] 51)).drewN (nq1 + nq)).setCell ⟨g, 12, none⟩ (.int .u64 (x.count + 1))) x.l (o :: os) (.slice Al x.l.length cl) (.slice (some ⟨bo, fo, po⟩) (os.length + 1) co) from
              ⟨blk_set (w := (w.alloc (.cells #[.int .i64 r.kind, .int .u64 r.frame, .int .u8 r.own, .int .u8 r.p0, .int .u8 r.p1, .int .u64 r.seg, .int .u64 r.first, .int .u64 r.epoch, .int .u8 r.player] 51)).drewN (nq1 + nq)) (blk_alloc HB2.out _) 12 _, blk_far (w := (w.alloc (.cells #[.int .i64 r.kind, .int .u64 r.frame, .int .u8 r.own, .int .u8 r.p0, .int .u8 r.p1, .int .u64 r.seg, .int .u64 r.first, .int .u64 r.epoch, .int .u8 r.player] 51)).drewN (nq1 + nq)) (heap_alloc_new w _) (p := ⟨g, 12, none⟩) (fun e => hne e.symm) _, q_move (q_alloc H2.out (.cells #[.int .i64 r.kind, .int .u64 r.frame, .int .u8 r.own, .int .u8 r.p0, .int .u8 r.p1, .int .u64 r.seg, .int .u64 r.first, .int .u64 r.epoch, .int .u8 r.player] 51)) (fun k e => Below.heap_setCell _ _ _ k (hgl k e)), q_move (q_alloc H3o.out (.cells #[.int .i64 r.kind, .int .u64 r.frame, .int .u8 r.own, .int .u8 r.p0, .int .u8 r.p1, .int .u64 r.seg, .int .u64 r.first, .int .u64 r.epoch, .int .u8 r.player] 51)) (fun k e => Below.heap_setCell _ _ _ k (hgo k e)), Kept.setCell (((Kept.refl w _).alloc _).drewN _) (Or.inl h4) _, (pw_below_drewN ((Below.refl base w).alloc hbw _) _).setCell hg.1 _, fun k e => Or.inl (hvl k e), fun k e => Or.inl (hvo k e)⟩)
            clear c4 c11 c13 c10 hneo dfr d0 hcnt co0 dpo z12 c9
            generalize ((w.alloc (.cells #[.int .i64 r.kind, .int .u64 r.frame, .int .u8 r.own, .int .u8 r.p0, .int .u8 r.p1, .int .u64 r.seg, .int .u64 r.first, .int .u64 r.epoch, .int .u8 r.player] 51)).drewN (nq1 + nq)).setCell ⟨g, 12, none⟩ (.int .u64 (x.count + 1)) = w1 at HM1 ⊢
            have HMd := Lib.hid (show Mid w base g n { x with count := x.count + 1 } r (.slice Al x.l.length cl) (.slice (some ⟨bo, fo, po⟩) (os.length + 1) co) F w1.drew x.l (o :: os) (.slice Al x.l.length cl) (.slice (some ⟨bo, fo, po⟩) (os.length + 1) co) from ⟨HM1.out.hg, HM1.out.hr, HM1.out.ql, HM1.out.qo, HM1.out.kept, ⟨HM1.out.below.os, HM1.out.below.tape, HM1.out.below.output, HM1.out.below.size, HM1.out.below.block⟩, HM1.out.al, HM1.out.ao⟩)
            refine start_ (n := 20) (S := (fun w' => w'.cell? ⟨g, 13, none⟩ = some (.slice (some ⟨bo, fo, po⟩) (os.length + 1) co) ∧ w'.cell? ⟨g, 10, none⟩ = some (.slice Al x.l.length cl) ∧ w'.cell? ⟨w.heap.size, 0, none⟩ = some (.int .i64 r.kind) ∧ w'.cell? ⟨w.heap.size, 1, none⟩ = some (.int .u64 r.frame) ∧ w'.cell? ⟨w.heap.size, 2, none⟩ = some (.int .u8 r.own) ∧ w'.cell? ⟨w.heap.size, 3, none⟩ = some (.int .u8 r.p0) ∧ w'.cell? ⟨w.heap.size, 4, none⟩ = some (.int .u8 r.p1) ∧ w'.cell? ⟨w.heap.size, 5, none⟩ = some (.int .u64 r.seg) ∧ w'.cell? ⟨w.heap.size, 6, none⟩ = some (.int .u64 r.first) ∧ w'.cell? ⟨w.heap.size, 7, none⟩ = some (.int .u64 r.epoch) ∧ w'.cell? ⟨w.heap.size, 8, none⟩ = some (.int .u8 r.player))) (ds := [16, 19]) #[false, false, false, false, false, false, false, false, false, false, false, false, false, false, false, false, false, false, false, false] (by kernel_rfl) rfl rfl ⟨blk_cell (HMd.out).hg 13, blk_cell (HMd.out).hg 10, blk_cell (HMd.out).hr 0, blk_cell (HMd.out).hr 1, blk_cell (HMd.out).hr 2, blk_cell (HMd.out).hr 3, blk_cell (HMd.out).hr 4, blk_cell (HMd.out).hr 5, blk_cell (HMd.out).hr 6, blk_cell (HMd.out).hr 7, blk_cell (HMd.out).hr 8⟩ (fun hHeld => ?_)
            generalize w1.drew = wd at HMd hHeld ⊢
            refine pure_ (i := 0) (N := some 51) (v := ?_) (a' := ?_) #[true, false, false, false, false, false, false, false, false, false, false, false, false, false, false, false, false, false, false, false] rfl rfl (by kernel_rfl) (fun _ _ _ h => h) (Or.inl ⟨by rfl, ?_⟩) ?_ ?_
            rotate_left
            · intro w'
              go_simp
              with_reducible rfl
            rotate_left
            · simp only [Act.put, List.setIfInBounds_toArray, List.set_cons_zero, List.set_cons_succ, i64_w, i32_w]
              rfl
            refine pure_ (i := 1) (N := some 52) (v := ?_) (a' := ?_) #[true, true, false, false, false, false, false, false, false, false, false, false, false, false, false, false, false, false, false, false] rfl rfl (by kernel_rfl) (fun _ _ _ h => h) (Or.inl ⟨by rfl, ?_⟩) ?_ ?_
            rotate_left
            · intro w'
              go_simp
              with_reducible rfl
            rotate_left
            · simp only [Act.put, List.setIfInBounds_toArray, List.set_cons_zero, List.set_cons_succ, i64_w, i32_w]
              rfl
            refine pure_ (i := 2) (N := some 53) (v := ?_) (a' := ?_) #[true, true, true, false, false, false, false, false, false, false, false, false, false, false, false, false, false, false, false, false] rfl rfl (by kernel_rfl) (fun _ _ _ h => h) (Or.inl ⟨by rfl, ?_⟩) ?_ ?_
            rotate_left
            · intro w'
              go_simp
              with_reducible rfl
            rotate_left
            · simp only [Act.put, List.setIfInBounds_toArray, List.set_cons_zero, List.set_cons_succ, i64_w, i32_w]
              rfl
            refine pure_ (i := 3) (N := some 54) (v := ?_) (a' := ?_) #[true, true, true, true, false, false, false, false, false, false, false, false, false, false, false, false, false, false, false, false] rfl rfl (by kernel_rfl) (fun _ _ _ h => h) (Or.inl ⟨by rfl, ?_⟩) ?_ ?_
            rotate_left
            · intro w'
              go_simp
              with_reducible rfl
            rotate_left
            · simp only [Act.put, List.setIfInBounds_toArray, List.set_cons_zero, List.set_cons_succ, i64_w, i32_w]
              rfl
            refine pure_ (i := 4) (N := some 55) (v := ?_) (a' := ?_) #[true, true, true, true, true, false, false, false, false, false, false, false, false, false, false, false, false, false, false, false] rfl rfl (by kernel_rfl) (fun _ _ _ h => h) (Or.inl ⟨by rfl, ?_⟩) ?_ ?_
            rotate_left
            · intro w'
              go_simp
              with_reducible rfl
            rotate_left
            · simp only [Act.put, List.setIfInBounds_toArray, List.set_cons_zero, List.set_cons_succ, i64_w, i32_w]
              rfl
            refine take_ (i := 5) (N := some 56) (v := ?_) (a' := ?_) #[true, true, true, true, true, true, false, false, false, false, false, false, false, false, false, false, false, false, false, false] rfl rfl (by kernel_rfl) (fun _ _ _ h => h) (Or.inl ⟨by rfl, ?_⟩) hHeld ?_ ?_
            rotate_left
            · rintro w' ⟨s0, s1, s2, s3, s4, s5, s6, s7, s8, s9, s10⟩
              go_simp
              with_reducible rfl
            rotate_left
            · simp only [Act.put, List.setIfInBounds_toArray, List.set_cons_zero, List.set_cons_succ, i64_w, i32_w]
              rfl
            refine pure_ (i := 6) (N := some 57) (v := ?_) (a' := ?_) #[true, true, true, true, true, true, true, false, false, false, false, false, false, false, false, false, false, false, false, false] rfl rfl (by kernel_rfl) (fun _ _ _ h => h) (Or.inl ⟨by rfl, ?_⟩) ?_ ?_
            rotate_left
            · intro w'
              go_simp
              with_reducible rfl
            rotate_left
            · simp only [Act.put, List.setIfInBounds_toArray, List.set_cons_zero, List.set_cons_succ, i64_w, i32_w]
              rfl
            refine pure_ (i := 7) (N := some 58) (v := ?_) (a' := ?_) #[true, true, true, true, true, true, true, true, false, false, false, false, false, false, false, false, false, false, false, false] rfl rfl (by kernel_rfl) (fun _ _ _ h => h) (Or.inl ⟨by rfl, ?_⟩) ?_ ?_
            rotate_left
            · intro w'
              go_simp
              with_reducible rfl
            rotate_left
            · simp only [Act.put, List.setIfInBounds_toArray, List.set_cons_zero, List.set_cons_succ, i64_w, i32_w]
              rfl
            refine pure_ (i := 8) (N := some 59) (v := ?_) (a' := ?_) #[true, true, true, true, true, true, true, true, true, false, false, false, false, false, false, false, false, false, false, false] rfl rfl (by kernel_rfl) (fun _ _ _ h => h) (Or.inl ⟨by rfl, ?_⟩) ?_ ?_
            rotate_left
            · intro w'
              go_simp
              with_reducible rfl
            rotate_left
            · simp only [Act.put, List.setIfInBounds_toArray, List.set_cons_zero, List.set_cons_succ, i64_w, i32_w]
              rfl
            refine pure_ (i := 9) (N := some 60) (v := ?_) (a' := ?_) #[true, true, true, true, true, true, true, true, true, true, false, false, false, false, false, false, false, false, false, false] rfl rfl (by kernel_rfl) (fun _ _ _ h => h) (Or.inl ⟨by rfl, ?_⟩) ?_ ?_
            rotate_left
            · intro w'
              go_simp
              with_reducible rfl
            rotate_left
            · simp only [Act.put, List.setIfInBounds_toArray, List.set_cons_zero, List.set_cons_succ, i64_w, i32_w]
              rfl
            refine take_ (i := 10) (N := some 61) (v := ?_) (a' := ?_) #[true, true, true, true, true, true, true, true, true, true, true, false, false, false, false, false, false, false, false, false] rfl rfl (by kernel_rfl) (fun _ _ _ h => h) (Or.inl ⟨by rfl, ?_⟩) hHeld ?_ ?_
            rotate_left
            · rintro w' ⟨s0, s1, s2, s3, s4, s5, s6, s7, s8, s9, s10⟩
              go_simp
              with_reducible rfl
            rotate_left
            · simp only [Act.put, List.setIfInBounds_toArray, List.set_cons_zero, List.set_cons_succ, i64_w, i32_w]
              rfl
            refine take_ (i := 11) (N := some 62) (v := ?_) (a' := ?_) #[true, true, true, true, true, true, true, true, true, true, true, true, false, false, false, false, false, false, false, false] rfl rfl (by kernel_rfl) (fun _ _ _ h => h) (Or.inl ⟨by rfl, ?_⟩) hHeld ?_ ?_
            rotate_left
            · rintro w' ⟨s0, s1, s2, s3, s4, s5, s6, s7, s8, s9, s10⟩
              go_simp
              with_reducible rfl
            rotate_left
            · simp only [Act.put, List.setIfInBounds_toArray, List.set_cons_zero, List.set_cons_succ, i64_w, i32_w]
              rfl
            refine one_ (i := 12) (N := some 63) #[true, true, true, true, true, true, true, true, true, true, true, true, true, false, false, false, false, false, false, false] rfl rfl (by kernel_rfl) (by decide) (fun K hK => ?_)
            refine value_ (w1 := ?_) (v := ?_) (by rfl) rfl ?_ ?_
            rotate_left 2
            · go_simp
              constructor
              · rfl
              · rfl
            refine hK.out _ _ ⟨blk_cell (mid_alloc (HMd.out) hbw _).hg 13, blk_cell (mid_alloc (HMd.out) hbw _).hg 10, blk_cell (mid_alloc (HMd.out) hbw _).hr 0, blk_cell (mid_alloc (HMd.out) hbw _).hr 1, blk_cell (mid_alloc (HMd.out) hbw _).hr 2, blk_cell (mid_alloc (HMd.out) hbw _).hr 3, blk_cell (mid_alloc (HMd.out) hbw _).hr 4, blk_cell (mid_alloc (HMd.out) hbw _).hr 5, blk_cell (mid_alloc (HMd.out) hbw _).hr 6, blk_cell (mid_alloc (HMd.out) hbw _).hr 7, blk_cell (mid_alloc (HMd.out) hbw _).hr 8⟩ (fun hHeld => ?_)
            clear hK K
            refine norm_ (a' := ?_) ?_ ?_
            rotate_left
            · show Act.put _ (some 63) _ = _
              simp only [Act.put, List.setIfInBounds_toArray, List.set_cons_zero, List.set_cons_succ, i64_w, i32_w]
              rfl
            refine one_ (i := 13) (N := some 64) #[true, true, true, true, true, true, true, true, true, true, true, true, true, true, false, false, false, false, false, false] rfl rfl (by kernel_rfl) (by decide) (fun K hK => ?_)
            refine q_app_step base (by rfl) (.tmp 61) (.tmp 63) 52 51 Rec.zero.val 9 56 (by rfl) Tryd.underlying52 info51b rfl (by decide) (by decide) (.slice Al x.l.length cl) x.l.length (flatR x.l) ⟨wd.heap.size, 0, none⟩ 1 1 r.cells.toList (by rfl) (by rfl) (by decide) rfl ?hn (by intro u hu; exact (Array.all_eq_true_iff_forall_mem.1 r.ones) u (by simpa using hu)) ?hq ?hbase (by omega) ?_
            case hn => exact news_blk (heap_alloc_new wd _)
            case hq => exact (mid_alloc (HMd.out) hbw _).ql
            case hbase => exact mid_base (mid_alloc (HMd.out) hbw _) hbw
            intro v_ w3 hq hgr hat
            obtain ⟨AL, cL, hv_, _⟩ := q_slice hq
            subst hv_
            have HM3 := Lib.hid (mid_appL (mid_alloc (HMd.out) hbw _) hvl hbw r hq hgr hat)
            have HFar3 := Lib.hid (fun k o (hk : w.heap.size ≤ k) hb => mid_far (mid_alloc (HMd.out) hbw _) hvl hgr (k := k) (o := o) hk hb)
            clear hq hgr hat
            refine hK.out _ _ ⟨blk_cell (HM3.out).hg 13, blk_cell (HM3.out).hg 10, blk_cell (HM3.out).hr 0, blk_cell (HM3.out).hr 1, blk_cell (HM3.out).hr 2, blk_cell (HM3.out).hr 3, blk_cell (HM3.out).hr 4, blk_cell (HM3.out).hr 5, blk_cell (HM3.out).hr 6, blk_cell (HM3.out).hr 7, blk_cell (HM3.out).hr 8⟩ (fun hHeld => ?_)
            clear hK K
            refine norm_ (a' := ?_) ?_ ?_
            rotate_left
            · show Act.put _ (some 64) _ = _
              simp only [Act.put, List.setIfInBounds_toArray, List.set_cons_zero, List.set_cons_succ, i64_w, i32_w]
              rfl
            refine pure_ (i := 14) (N := some 65) (v := ?_) (a' := ?_) #[true, true, true, true, true, true, true, true, true, true, true, true, true, true, true, false, false, false, false, false] rfl rfl (by kernel_rfl) (fun _ _ _ h => h) (Or.inl ⟨by rfl, ?_⟩) ?_ ?_
            rotate_left
            · intro w'
              go_simp
              with_reducible rfl
            rotate_left
            · simp only [Act.put, List.setIfInBounds_toArray, List.set_cons_zero, List.set_cons_succ, i64_w, i32_w]
              rfl
            refine pure_ (i := 15) (N := some 66) (v := ?_) (a' := ?_) #[true, true, true, true, true, true, true, true, true, true, true, true, true, true, true, true, false, false, false, false] rfl rfl (by kernel_rfl) (fun _ _ _ h => h) (Or.inl ⟨by rfl, ?_⟩) ?_ ?_
            rotate_left
            · intro w'
              go_simp
              with_reducible rfl
            rotate_left
            · simp only [Act.put, List.setIfInBounds_toArray, List.set_cons_zero, List.set_cons_succ, i64_w, i32_w]
              rfl
            refine last_ (i := 16) (N := none) #[true, true, true, true, true, true, true, true, true, true, true, true, true, true, true, true, true, false, false, false] rfl rfl (by kernel_rfl) (by decide) (fun K hK => ?_)
            have t13 : w3.cell? ⟨g, 13, none⟩ = some (.slice (some ⟨bo, fo, po⟩) (os.length + 1) co) := blk_cell HM3.out.hg 13
            have z13 := blk_frozen HM3.out.hg 13
            refine skip_ (w1 := ?_) (by rfl) rfl ?_ ?_
            rotate_left
            · go_simp
              rfl
            refine hK.out _ _ ?_
            clear hK K
            refine pure_ (i := 17) (N := some 67) (v := ?_) (a' := ?_) #[true, true, true, true, true, true, true, true, true, true, true, true, true, true, true, true, true, true, false, false] rfl rfl (by kernel_rfl) (fun _ _ _ h => h) (Or.inl ⟨by rfl, ?_⟩) ?_ ?_
            rotate_left
            · intro w'
              go_simp
              with_reducible rfl
            rotate_left
            · simp only [Act.put, List.setIfInBounds_toArray, List.set_cons_zero, List.set_cons_succ, i64_w, i32_w]
              rfl
            refine pure_ (i := 18) (N := some 68) (v := ?_) (a' := ?_) #[true, true, true, true, true, true, true, true, true, true, true, true, true, true, true, true, true, true, true, false] rfl rfl (by kernel_rfl) (fun _ _ _ h => h) (Or.inl ⟨by rfl, ?_⟩) ?_ ?_
            rotate_left
            · intro w'
              go_simp
              with_reducible rfl
            rotate_left
            · simp only [Act.put, List.setIfInBounds_toArray, List.set_cons_zero, List.set_cons_succ, i64_w, i32_w]
              rfl
            refine last_ (i := 19) (N := none) #[true, true, true, true, true, true, true, true, true, true, true, true, true, true, true, true, true, true, true, true] rfl rfl (by kernel_rfl) (by decide) (fun K hK => ?_)
            have t10 : (w3.setCell ⟨g, 13, none⟩ (.slice (if co = 1 then some ⟨bo, fo, po⟩ else some ⟨bo, fo + 1, none⟩) os.length (co - 1))).cell? ⟨g, 10, none⟩ = some (.slice Al x.l.length cl) := (blk_cell (blk_set HM3.out.hg 13 _) 10).trans rfl
            have z10 := blk_frozen (blk_set HM3.out.hg 13 (.slice (if co = 1 then some ⟨bo, fo, po⟩ else some ⟨bo, fo + 1, none⟩) os.length (co - 1))) 10
            refine skip_ (w1 := ?_) (by rfl) rfl ?_ ?_
            rotate_left
            · go_simp
              rfl
            refine hK.out _ _ ?_
            clear hK K
            refine done_ (by kernel_rfl) ?_
            go_wp2
            all_goals
              go_ret
              rw [HS.out]
              refine ⟨rfl, ?_⟩
            · refine mid_end (mid_dropO1 (by assumption) HM3.out) h4 h7 hbw (x' := { x with count := x.count + 1, owned := os, l := x.l ++ [r] }) (blk_set (blk_set HM3.out.hg 13 _) 10 _) ?_ ?_ rfl rfl
              · exact Kept.setCell (S := fun i => i = g) (Kept.setCell (S := fun i => i = g) (Kept.refl _ _) (Or.inl rfl) _) (Or.inl rfl) _
              · exact ((Below.refl base _).setCell hg.1 _).setCell hg.1 _
            · refine mid_end (mid_dropO2 (by assumption) HM3.out) h4 h7 hbw (x' := { x with count := x.count + 1, owned := os, l := x.l ++ [r] }) (blk_set (blk_set HM3.out.hg 13 _) 10 _) ?_ ?_ rfl rfl
              · exact Kept.setCell (S := fun i => i = g) (Kept.setCell (S := fun i => i = g) (Kept.refl _ _) (Or.inl rfl) _) (Or.inl rfl) _
              · exact ((Below.refl base _).setCell hg.1 _).setCell hg.1 _
        · have HS := Lib.hid (show sureS x r = (x, 14) by unfold sureS; rw [hown]; exact (if_pos ⟨hbeg, hfr⟩).trans (if_neg hpo))
          rcases hp with hp | hp
          · rw [hp] at c9
            have dpo : (r.p0 != o) = true := by rw [hp] at hpo; simpa [Rec.pair] using hpo
            clear hbeg hown hp hpo hfr c3
            go_enter Tryd.func74, Tryd.ntmps74
            go_wp2_with fail
            go_quiet (fail)
            go_wp2_with fail
            go_quiet (fail)
            go_wp2
            go_ret
            rw [HS.out]
            exact ⟨rfl, HDid2.out _ _⟩
          · rw [hp] at c9
            have dpo : (r.p1 != o) = true := by rw [hp] at hpo; simpa [Rec.pair] using hpo
            clear hbeg hown hp hpo hfr c3
            go_enter Tryd.func74, Tryd.ntmps74
            go_wp2_with fail
            go_quiet (fail)
            go_wp2_with fail
            go_quiet (fail)
            go_wp2
            go_ret
            rw [HS.out]
            exact ⟨rfl, HDid2.out _ _⟩
    · have dfr : (r.frame != x.count) = true := by simp [hfr]
      have HS := Lib.hid (show sureS x r = (x, 11) by unfold sureS; split; rfl; exact if_neg (fun h => hfr h.2))
      clear hbeg hfr
      go_enter Tryd.func74, Tryd.ntmps74
      go_wp2_with fail
      go_quiet (fail)
      go_wp2
      go_ret
      rw [HS.out]
      exact ⟨rfl, HDid.out _⟩
end Go.Proofs.YtnhjhaphfdlkfaaDoor.Sg
/- The scanner's take. -/
set_option linter.unusedVariables false
set_option linter.unusedSimpArgs false
namespace Go.Proofs.YtnhjhaphfdlkfaaDoor.Sg
open Go.RowKit Go.Proofs.YtnhjhaphfdlkfaaDoor.HF Go.Proofs.YtnhjhaphfdlkfaaDoor.SB Go.Proofs.YtnhjhaphfdlkfaaDoorW.PrintWords Go.Proofs.YtnhjhaphfdlkfaaDoorW.PrintLast Go.Proofs.YtnhjhaphfdlkfaaDoorW.PrintMore
theorem did_from {w w1 w' : World} {base g : Nat} {n : Int} {x : Sc} {F : Nat → Prop} (hk : Kept w w1 F) (hb : Below base w w1) (h : DidSc w1 w' base g n x F) : DidSc w w' base g n x F := by
  obtain ⟨F', h1, h2, h3, h4⟩ := h
  refine ⟨F', h1, fun k hf => (h2 k hf).imp id (fun h => Nat.le_trans hk.1 h), hk.then_ h3 (fun k e => Or.inl e), hb.trans h4⟩
def stakeS (n : Int) (x : Sc) (r : Rec) : Sc × Int := if r.kind = 3 then beginS n x r else if r.kind = 2 then sureS x r else ownS x r
/-- What the scanner is asked to be, ahead of a record. -/
structure Sc.Ok (x : Sc) : Prop where
  frames : 0 ≤ x.count ∧ x.count + x.owned.length < 18446744073709551616
  few : x.l.length ≤ 100000
  player : x.head.player = 0 ∨ x.head.player = 1
theorem mf (fn : Fn) (first cap : Array Value) (w : World) : (Instr.makeFunc fn first cap).run Tryd.prog w = .ok (.func fn first cap) w := rfl
set_option maxHeartbeats 1000000 in
set_option maxRecDepth 100000 in
theorem stake_calls (w : World) (base g : Nat) (n : Int) (x : Sc) (F : Nat → Prop) (h : IsSc w base g n x F) (hbw : base ≤ w.heap.size) (r : Rec) (hr : 0 ≤ r.frame ∧ r.frame < 18446744073709551616) (hx : x.Ok) :
    Calls Tryd.prog 52 #[.pointer (some ⟨g, 0, none⟩), r.val] w fun e w' => e = .returned (.int .i64 (stakeS n x r).2) ∧ DidSc w w' base g n (stakeS n x r).1 F := by
  have hmf := mf
  have HK := Lib.hid ((Kept.refl w F).alloc (.cells r.cells 51))
  have HB := Lib.hid ((Below.refl base w).alloc hbw (.cells r.cells 51))
  have HS := Lib.hid (sc_kept h ((Kept.refl w (fun _ => False)).alloc (.cells r.cells 51)) (fun _ _ h => h))
  have HOk := Lib.hid hx
  have HR := Lib.hid hr
  clear h hx hr
  unfold Rec.val Rec.cells
  by_cases h3 : r.kind = 3
  · have d3 : (r.kind == 3) = true := by simp [h3]
    have HST := Lib.hid (show stakeS n x r = beginS n x r from if_pos h3)
    clear h3
    go_enter Tryd.func52, Tryd.ntmps52
    go_wp2_with fail
    refine (begin_calls (w.alloc (.cells r.cells 51)) base g n x F HS.out (by simp; omega) r).mono ?_
    rintro e w1 ⟨rfl, hD⟩
    have HD := Lib.hid (did_from HK.out HB.out hD)
    clear hD
    go_wp2_with fail
    go_ret
    rw [HST.out]
    exact ⟨rfl, HD.out⟩
  · have d3 : (r.kind == 3) = false := by simp [h3]
    by_cases h2 : r.kind = 2
    · have d2 : (r.kind == 2) = true := by simp [h2]
      have HST := Lib.hid (show stakeS n x r = sureS x r from (if_neg h3).trans (if_pos h2))
      clear h3 h2
      go_enter Tryd.func52, Tryd.ntmps52
      go_wp2_with fail
      refine (sure_calls (w.alloc (.cells r.cells 51)) base g n x F HS.out (by simp; omega) r HOk.out.frames HOk.out.few HOk.out.player).mono ?_
      rintro e w1 ⟨rfl, hD⟩
      have HD := Lib.hid (did_from HK.out HB.out hD)
      clear hD
      go_wp2_with fail
      go_ret
      rw [HST.out]
      exact ⟨rfl, HD.out⟩
    · have d2 : (r.kind == 2) = false := by simp [h2]
      have HST := Lib.hid (show stakeS n x r = ownS x r from (if_neg h3).trans (if_neg h2))
      clear h3 h2
      go_enter Tryd.func52, Tryd.ntmps52
      go_wp2_with fail
      refine (own_calls (w.alloc (.cells r.cells 51)) base g n x F HS.out (by simp; omega) r HR.out ⟨HOk.out.frames.1, by have := HOk.out.frames.2; omega⟩ HOk.out.few).mono ?_
      rintro e w1 ⟨rfl, hD⟩
      have HD := Lib.hid (did_from HK.out HB.out hD)
      clear hD
      go_wp2_with fail
      go_ret
      rw [HST.out]
      exact ⟨rfl, HD.out⟩
end Go.Proofs.YtnhjhaphfdlkfaaDoor.Sg
/- first, over three closures. -/
set_option linter.unusedVariables false
set_option linter.unusedSimpArgs false
namespace Go.Proofs.YtnhjhaphfdlkfaaDoor.Sg
open Go.RowKit Go.Proofs.YtnhjhaphfdlkfaaDoor.HF Go.Proofs.YtnhjhaphfdlkfaaDoor.SB Go.Proofs.YtnhjhaphfdlkfaaDoorW.PrintWords Go.Proofs.YtnhjhaphfdlkfaaDoorW.PrintLast Go.Proofs.YtnhjhaphfdlkfaaDoorW.PrintMore
set_option maxHeartbeats 1000000 in
set_option maxRecDepth 100000 in
theorem first_calls (w : World) (b : Nat) (k : Nat → FuncId) (c : Nat → Array Value) (Inv : Nat → World → Prop) (Post : Int → World → Prop)
    (hk : ∀ j, j < 3 → ∀ args W, (callFunc (k j) args).run Tryd.prog W = .ok (.enter (k j) args) W)
    (hrow : ∀ j W, Inv j W → W.heap[b]? = some (.cells #[.func (.func (k 0)) #[] (c 0), .func (.func (k 1)) #[] (c 1), .func (.func (k 2)) #[] (c 2)] 91 (0, 0)))
    (hcall : ∀ j, j < 3 → ∀ W, Inv j W → Calls Tryd.prog (k j) (c j) W fun e W' => ∃ v, e = .returned (.int .i64 v) ∧ (v = 0 → Inv (j + 1) W') ∧ (v ≠ 0 → Post v W'))
    (hend : ∀ W, Inv 3 W → Post 0 W) (h0 : Inv 0 w) :
    Calls Tryd.prog 47 #[.slice (some ⟨b, 0, none⟩) 3 3] w fun e w' => ∃ v, e = .returned (.int .i64 v) ∧ Post v w' := by
  have HR := Lib.hid hrow
  have HC := Lib.hid hcall
  have HE := Lib.hid hend
  have H0 := Lib.hid h0
  clear hrow hcall hend h0
  go_enter Tryd.func47, Tryd.ntmps47
  go_wp2_with fail
  go_loopw [8] (fun i wr => ∃ j : Nat, i = .int .i64 j ∧ j ≤ 3 ∧ Inv j wr) (fun i _ => 3 - (intOf i).toNat)
  case atStart => exact ⟨0, rfl, by omega, H0.out⟩
  case round =>
    obtain ⟨j, rfl, hj, hI⟩ := hrel
    by_cases h3 : j < 3
    · have hlt : decide ((j : Int) < 3) = true := decide_eq_true (by omega)
      have hcf : wr.cell? ⟨b, j, none⟩ = some (.func (.func (k j)) #[] (c j)) := by
        have hb := HR.out j wr hI
        rcases (by omega : j = 0 ∨ j = 1 ∨ j = 2) with rfl | rfl | rfl
        · exact blk_cell hb 0
        · exact blk_cell hb 1
        · exact blk_cell hb 2
      have hkj := hk j h3
      have HCj := Lib.hid (HC.out j h3 wr hI)
      clear hI
      go_wp2_with fail
      refine (HCj.out).mono ?_
      rintro e w2 ⟨v, rfl, hv0, hv1⟩
      by_cases hz : v = 0
      · have hzb : (v != 0) = false := by simp [hz]
        have HI := Lib.hid (hv0 hz)
        clear hv0 hv1
        go_wp2
        exact ⟨⟨j + 1, by go_num, by omega, HI.out⟩, by simp [intOf]; omega⟩
      · have hzb : (v != 0) = true := by simp [hz]
        have HQ := Lib.hid (hv1 hz)
        clear hv0 hv1
        go_wp2
        go_ret
        exact ⟨v, rfl, HQ.out⟩
    · have h33 : j = 3 := by omega
      subst h33
      have HQ := Lib.hid (HE.out wr hI)
      clear hI
      go_wp2
      go_ret
      exact ⟨0, rfl, HQ.out⟩
end Go.Proofs.YtnhjhaphfdlkfaaDoor.Sg
/- Scan's closures. -/
set_option linter.unusedVariables false
set_option linter.unusedSimpArgs false
namespace Go.Proofs.YtnhjhaphfdlkfaaDoor.Sg
open Go.RowKit Go.Proofs.YtnhjhaphfdlkfaaDoor.HF Go.Proofs.YtnhjhaphfdlkfaaDoor.SB Go.Proofs.YtnhjhaphfdlkfaaDoorW.PrintWords Go.Proofs.YtnhjhaphfdlkfaaDoorW.PrintLast Go.Proofs.YtnhjhaphfdlkfaaDoorW.PrintMore
set_option maxHeartbeats 1000000 in
set_option maxRecDepth 100000 in
theorem close48 (w : World) (base a b c d : Nat) (l : List UInt8) (gd : Nat) (vc vd : Value) (hl : l.length ≤ 100000) (hgd : gd ≤ l.length) (HL : Lay w)
    (ha : w.heap[a]? = some (.cells #[.string (bs l)] 9 (0, 0))) (hb : w.heap[b]? = some (.cells #[.int .i64 gd] 3 (0, 0))) (hc : w.heap[c]? = some (.cells #[vc] 9 (0, 0))) (hd : w.heap[d]? = some (.cells #[vd] 3 (0, 0))) (hcd : c ≠ d) (hbc : base ≤ c) (hbd : base ≤ d) :
    Calls Tryd.prog 48 #[.pointer (some ⟨a, 0, none⟩), .pointer (some ⟨b, 0, none⟩), .pointer (some ⟨c, 0, none⟩), .pointer (some ⟨d, 0, none⟩)] w fun e w' => e = .returned (.int .i64 (nextN (l.drop gd)).2.2) ∧ w'.heap[c]? = some (.cells #[.string (bs (nextN (l.drop gd)).1)] 9 (0, 0)) ∧ w'.heap[d]? = some (.cells #[.int .i64 (nextN (l.drop gd)).2.1] 3 (0, 0)) ∧ Kept w w' (fun i => i = c ∨ i = d) ∧ Below base w w' := by
  have hla := blk_lt ha
  have hlb := blk_lt hb
  have hlc := blk_lt hc
  have hld := blk_lt hd
  have ca : w.cell? ⟨a, 0, none⟩ = some (.string (bs l)) := blk_cell ha 0
  have cb : w.cell? ⟨b, 0, none⟩ = some (.int .i64 gd) := blk_cell hb 0
  have hgs : (gd : Int) ≤ (bs l).size := by rw [bs_size]; omega
  have hgx : (bs l).extract gd (bs l).size = bs (l.drop gd) := by rw [bs_extract, bs_size, List.take_length]
  have HN := Lib.hid (fun W (h : Lay W) => c_next (l.drop gd) (by rw [List.length_drop]; omega) W h)
  have HLy := Lib.hid HL
  have Hc := Lib.hid hc
  have Hd := Lib.hid hd
  clear ha hb hc hd HL
  go_enter Tryd.func48, Tryd.ntmps48
  go_wp2_with fail
  refine (HN.out w HLy.out).mono ?_
  rintro e w1 ⟨rfl, hB1⟩
  have Hc1 := Lib.hid ((hB1.block c hlc).trans Hc.out)
  have Hd1 := Lib.hid ((hB1.block d hld).trans Hd.out)
  have HK1 := Lib.hid (Kept.of_below hB1 (fun i => i = c ∨ i = d))
  have cc1 : w1.cell? ⟨c, 0, none⟩ = some vc := blk_cell Hc1.out 0
  have cd1 : w1.cell? ⟨d, 0, none⟩ = some vd := blk_cell Hd1.out 0
  have zc1 : w1.frozen? ⟨c, 0, none⟩ = false := blk_frozen Hc1.out 0
  have zd1 : w1.frozen? ⟨d, 0, none⟩ = false := blk_frozen Hd1.out 0
  have HB1 := Lib.hid (hB1.mono (show base ≤ w.heap.size by omega))
  clear hB1 HN
  generalize hG : (nextN (l.drop gd)) = N at *
  obtain ⟨T, m, e⟩ := N
  have HG := Lib.hid hG
  clear hG
  go_wp2
  go_ret
  rw [HG.out]
  refine ⟨rfl, ?_, ?_, ?_, ?_⟩
  · exact blk_far (blk_set Hc1.out 0 _) hcd _
  · exact blk_set (blk_far Hd1.out hcd.symm _) 0 _
  · exact (HK1.out.setCell (Or.inl (Or.inl rfl)) _).setCell (Or.inl (Or.inr rfl)) _
  · exact (HB1.out.setCell hbc _).setCell hbd _
set_option maxHeartbeats 1000000 in
set_option maxRecDepth 100000 in
theorem close49 (w : World) (base c q : Nat) (p : List UInt8) (R0 : Rec) (hl : p.length ≤ 100000)
    (hc : w.heap[c]? = some (.cells #[.string (bs p)] 9 (0, 0))) (hq : w.heap[q]? = some (.cells R0.cells 51 (0, 0))) (hbq : base ≤ q) :
    Calls Tryd.prog 49 #[.pointer (some ⟨c, 0, none⟩), .pointer (some ⟨q, 0, none⟩)] w fun e w' => e = .returned (.int .i64 (takeG p).2) ∧ w'.heap[q]? = some (.cells (takeG p).1.cells 51 (0, 0)) ∧ Kept w w' (fun i => i = q) ∧ Below base w w' := by
  have hlq := blk_lt hq
  have cc : w.cell? ⟨c, 0, none⟩ = some (.string (bs p)) := blk_cell hc 0
  have HT := Lib.hid (fun W => take_calls p hl W)
  have Hq := Lib.hid hq
  clear hc hq
  go_enter Tryd.func49, Tryd.ntmps49
  go_wp2_with fail
  refine (HT.out w).mono ?_
  rintro e w1 ⟨rfl, hB1⟩
  have Hq1 := Lib.hid ((hB1.block q hlq).trans Hq.out)
  have HK1 := Lib.hid (Kept.of_below hB1 (fun i => i = q))
  have HB1 := Lib.hid (hB1.mono (show base ≤ w.heap.size by omega))
  clear hB1 HT
  generalize hG : takeG p = N at *
  obtain ⟨R, e⟩ := N
  have HG := Lib.hid hG
  clear hG
  go_wp2_with (first | ((with_reducible refine gate_store (t := 51) (p := 1) rfl ?_); refine store_rec rfl 51 (.tmp 1) (.tmp 6) rfl info51 q 51 R R0 rfl rfl Hq1.out ?_; intro w2 hz2 hk2 hb2; have HZ2 := Lib.hid hz2; have HK2 := Lib.hid hk2; have HB2 := Lib.hid (hb2 base w hbq HB1.out); clear hz2 hk2 hb2))
  go_ret
  rw [HG.out]
  exact ⟨rfl, HZ2.out, HK1.out.then_ HK2.out (fun k e => Or.inl e), HB2.out⟩
set_option maxHeartbeats 1000000 in
set_option maxRecDepth 100000 in
theorem close51 (w : World) (base g s q : Nat) (n : Int) (x : Sc) (F : Nat → Prop) (r : Rec) (h : IsSc w base g n x F) (hbw : base ≤ w.heap.size) (hr : 0 ≤ r.frame ∧ r.frame < 18446744073709551616) (hx : x.Ok)
    (hs : w.heap[s]? = some (.cells #[.pointer (some ⟨g, 0, none⟩)] 100 (0, 0))) (hq : w.heap[q]? = some (.cells r.cells 51 (0, 0))) :
    Calls Tryd.prog 51 #[.pointer (some ⟨s, 0, none⟩), .pointer (some ⟨q, 0, none⟩)] w fun e w' => e = .returned (.int .i64 (stakeS n x r).2) ∧ DidSc w w' base g n (stakeS n x r).1 F := by
  have cs : w.cell? ⟨s, 0, none⟩ = some (.pointer (some ⟨g, 0, none⟩)) := blk_cell hs 0
  have HT := Lib.hid (stake_calls w base g n x F h hbw r hr hx)
  have Hq := Lib.hid hq
  clear h hr hx hs hq
  go_enter Tryd.func51, Tryd.ntmps51
  go_wp2_with (first | ((with_reducible refine gate_load (t := 51) (p := 1) rfl ?_); refine gate_guard (by rfl) ?_; refine load_rec rfl 51 (.tmp 1) rfl _ Tryd.underlying51 rfl info51 q 51 r rfl Hq.out ?_))
  refine HT.out.mono ?_
  rintro e w1 ⟨rfl, hD⟩
  go_wp2
  go_ret
  exact ⟨rfl, hD⟩
end Go.Proofs.YtnhjhaphfdlkfaaDoor.Sg
/- Scan, in plain words. -/
set_option linter.unusedVariables false
set_option linter.unusedSimpArgs false
namespace Go.Proofs.YtnhjhaphfdlkfaaDoor.Sg
open Go.RowKit Go.Proofs.YtnhjhaphfdlkfaaDoor.HF Go.Proofs.YtnhjhaphfdlkfaaDoor.SB
theorem g8_range (r : Option (List UInt8)) : 0 ≤ (g 8 r).1 ∧ (g 8 r).1 < 18446744073709551616 := by
  cases r with
  | none => simp [g]
  | some l =>
    by_cases h : 8 ≤ l.length
    · rw [g_yes 8 l h]
      have := numN_lt (l.take 8)
      rw [List.length_take, Nat.min_eq_left h] at this
      exact ⟨by simp only; omega, by simp only; omega⟩
    · rw [g_no 8 l h]; simp
/-- What is taken may be. -/
theorem take_may {p : List UInt8} (h : (takeG p).2 = 0) : (takeG p).1.may := by
  unfold takeG at h ⊢
  by_cases h0 : p = []
  · rw [if_pos h0] at h; cases h
  rw [if_neg h0] at h ⊢
  by_cases hk : (g 1 (some p)).1 = 1 ∨ (g 1 (some p)).1 = 2 ∨ (g 1 (some p)).1 = 3
  · rw [if_pos hk] at h ⊢
    by_cases h1 : (st (fieldsG { Rec.zero with kind := (g 1 (some p)).1 } (g 1 (some p)).2).2).2 = 0
    · rw [if_pos h1] at h ⊢
      by_cases h2 : (st (fieldsG { Rec.zero with kind := (g 1 (some p)).1 } (g 1 (some p)).2).2).1 = bs [] ∧ (fieldsG { Rec.zero with kind := (g 1 (some p)).1 } (g 1 (some p)).2).1.right = true
      · rw [if_pos h2]
        have hr := h2.2
        clear h h1 h2 h0
        generalize (g 1 (some p)).2 = q at *
        generalize (g 1 (some p)).1 = k at *
        simp only
        unfold Rec.right at hr
        simp only [Bool.and_eq_true, decide_eq_true_eq] at hr
        have e8 := fun r => g8_range r
        have e1 := fun r => g1_range r
        rcases hk with rfl | rfl | rfl
        · refine Or.inl ⟨rfl, rfl, e8 _, (e1 _).1, hr.1⟩
        · refine Or.inr (Or.inl ⟨rfl, rfl, e8 _, ⟨(e1 _).1, hr.2.1⟩, (e1 _).1, hr.2.2.1⟩)
        · refine Or.inr (Or.inr ⟨rfl, rfl, e8 _, e8 _, e8 _, (e1 _).1, hr.2.2.2⟩)
      · rw [if_neg h2] at h; cases h
    · rw [if_neg h1] at h; exact absurd h h1
  · rw [if_neg hk] at h; cases h
theorem may_frame {r : Rec} (h : r.may) : 0 ≤ r.frame ∧ r.frame < 18446744073709551616 := by
  rcases h with ⟨_, _, h, _⟩ | ⟨_, _, h, _⟩ | ⟨_, e, _⟩
  · exact h
  · exact h
  · rw [e]; simp [Rec.zero]
structure Sc.Good (x : Sc) : Prop where
  frames : 0 ≤ x.count ∧ x.count + x.owned.length < 18446744073709551616
  player : x.head.player = 0 ∨ x.head.player = 1
  idle : x.begun = false → x.owned = []
theorem good_step {x : Sc} (hx : x.Good) {r : Rec} (hr : r.may) (n : Int) : (stakeS n x r).1.Good := by
  unfold stakeS
  by_cases h3 : r.kind = 3
  · rw [if_pos h3]
    unfold beginS
    split
    · exact hx
    · rename_i hb
      rcases hr with ⟨e, _⟩ | ⟨e, _⟩ | ⟨_, _, _, hf, _, hp⟩
      · omega
      · omega
      have hbf : x.begun = false := by cases h : x.begun; rfl; exact absurd (Or.inl h) hb
      exact ⟨⟨hf.1, by simp only [hx.idle hbf]; simpa using hf.2⟩, by simp only; omega, fun h => by cases h⟩
  · rw [if_neg h3]
    by_cases h2 : r.kind = 2
    · rw [if_pos h2]
      unfold sureS
      cases ho : x.owned with
      | nil => exact hx
      | cons o os =>
        simp only
        split
        · split
          · rename_i hb _
            have := hx.frames
            rw [ho] at this
            simp only [List.length_cons] at this
            exact ⟨⟨by simp only; omega, by simp only; omega⟩, hx.player, fun h => by simp only at h; rw [hb.1] at h; cases h⟩
          · exact hx
        · exact hx
    · rw [if_neg h2]
      unfold ownS
      split
      · rename_i hc
        have := may_frame hr
        have h2 := hx.frames
        exact ⟨⟨h2.1, by simp only [List.length_append, List.length_singleton]; omega⟩, hx.player, fun h => by simp only at h; rw [hc.1] at h; cases h⟩
      · exact hx
theorem len_step (n : Int) (x : Sc) (r : Rec) : (stakeS n x r).1.l.length ≤ x.l.length + 1 := by
  unfold stakeS beginS sureS ownS
  split
  · split <;> simp
  · split
    · split
      · simp
      · split
        · split <;> simp
        · simp
    · split <;> simp
def Sc.start : Sc := ⟨Rec.zero, [], false, 0, []⟩
theorem good_start : Sc.start.Good := ⟨⟨by decide, by decide⟩, Or.inl rfl, fun _ => rfl⟩
/-- Scan. -/
def scanN (n : Int) (l : List UInt8) : Nat → Sc → Nat → Sc × Nat × Int
  | 0, x, gd => (x, gd, 0)
  | f + 1, x, gd =>
    if gd < l.length ∨ x.begun = false then
      (if (nextN (l.drop gd)).2.2 ≠ 0 then (x, gd, (nextN (l.drop gd)).2.2)
       else if (takeG (nextN (l.drop gd)).1).2 ≠ 0 then (x, gd, (takeG (nextN (l.drop gd)).1).2)
       else if (stakeS n x (takeG (nextN (l.drop gd)).1).1).2 ≠ 0 then ((stakeS n x (takeG (nextN (l.drop gd)).1).1).1, gd, (stakeS n x (takeG (nextN (l.drop gd)).1).1).2)
       else scanN n l f (stakeS n x (takeG (nextN (l.drop gd)).1).1).1 (gd + (nextN (l.drop gd)).2.1.toNat))
    else (x, gd, 0)
def scanG (n : Int) (l : List UInt8) : Sc × Nat × Int := scanN n l (l.length + 8) Sc.start 0
theorem next_len {l : List UInt8} (h : (nextN l).2.2 = 0) : 6 ≤ (nextN l).2.1 ∧ (nextN l).2.1 ≤ l.length ∧ (nextN l).1.length ≤ l.length := by
  unfold nextN at h ⊢
  split at h
  · cases h
  split at h
  · cases h
  split at h
  · cases h
  split at h
  · cases h
  rename_i h1 h2 h3 h4
  rw [if_neg h1, if_neg h2, if_neg h3, if_neg h4]
  rw [List.length_drop] at h3
  exact ⟨by simp only; omega, by simp only; omega, by simp only [List.length_take, List.length_drop]; omega⟩
theorem next_text_len (l : List UInt8) : (nextN l).1.length ≤ l.length := by
  by_cases h : (nextN l).2.2 = 0
  · exact (next_len h).2.2
  · unfold nextN at h ⊢
    split
    · simp
    split
    · simp
    split
    · simp
    split
    · simp
    · simp only [List.length_take, List.length_drop]; omega
end Go.Proofs.YtnhjhaphfdlkfaaDoor.Sg
/- Scan: between its rounds, what lies where. -/
set_option linter.unusedVariables false
set_option linter.unusedSimpArgs false
namespace Go.Proofs.YtnhjhaphfdlkfaaDoor.Sg
open Go.RowKit Go.Proofs.YtnhjhaphfdlkfaaDoor.HF Go.Proofs.YtnhjhaphfdlkfaaDoor.SB Go.Proofs.YtnhjhaphfdlkfaaDoorW.PrintWords Go.Proofs.YtnhjhaphfdlkfaaDoorW.PrintLast Go.Proofs.YtnhjhaphfdlkfaaDoorW.PrintMore
structure StB (w W : World) (n : Int) (l : List UInt8) (a h b g p : Nat) (x : Sc) (gd : Nat) (F : Nat → Prop) : Prop where
  cs : W.heap[a]? = some (.cells #[.string (bs l)] 9 (0, 0))
  ch : W.heap[h]? = some (.cells Rec.zero.cells 51 (0, 0))
  cb : W.heap[b]? = some (.cells #[.int .i64 gd] 3 (0, 0))
  cp : W.heap[p]? = some (.cells #[.pointer (some ⟨g, 0, none⟩)] 100 (0, 0))
  sc : IsSc W w.heap.size g n x F
  fa : ¬ F a
  fh : ¬ F h
  fb : ¬ F b
  fp : ¬ F p
  lo : w.heap.size ≤ a ∧ w.heap.size ≤ h ∧ w.heap.size ≤ b ∧ w.heap.size ≤ p
  below : Below w.heap.size w W
section
variable {w W W1 : World} {n : Int} {l : List UInt8} {a h b g p : Nat} {x x1 : Sc} {gd : Nat} {F S : Nat → Prop}
theorem stb_kept (H : StB w W n l a h b g p x gd F) (hk : Kept W W1 S) (hF : ∀ k, F k → ¬ S k) (ha : ¬ S a) (hh : ¬ S h) (hb : ¬ S b) (hp : ¬ S p) (hB : Below w.heap.size w W1) : StB w W1 n l a h b g p x gd F :=
  ⟨blk_kept H.cs hk ha, blk_kept H.ch hk hh, blk_kept H.cb hk hb, blk_kept H.cp hk hp, sc_kept H.sc hk hF, H.fa, H.fh, H.fb, H.fp, H.lo, hB⟩
theorem stb_free (H : StB w W n l a h b g p x gd F) (hk : Kept W W1 (fun _ => False)) (hB : Below w.heap.size w W1) : StB w W1 n l a h b g p x gd F := stb_kept H hk (fun _ _ h => h) (fun h => h) (fun h => h) (fun h => h) (fun h => h) hB
theorem stb_did (H : StB w W n l a h b g p x gd F) (hd : DidSc W W1 w.heap.size g n x1 F) : ∃ F1, StB w W1 n l a h b g p x1 gd F1 ∧ (∀ k, F1 k → F k ∨ W.heap.size ≤ k) ∧ Kept W W1 F := by
  obtain ⟨F1, h1, h2, h3, h4⟩ := hd
  have far : ∀ {k : Nat} {o : Obj}, W.heap[k]? = some o → ¬ F k → ¬ F1 k := fun hb hn hf => by
    rcases h2 _ hf with h | h
    · exact hn h
    · have := blk_lt hb; omega
  exact ⟨F1, ⟨blk_kept H.cs h3 H.fa, blk_kept H.ch h3 H.fh, blk_kept H.cb h3 H.fb, blk_kept H.cp h3 H.fp, h1, far H.cs H.fa, far H.ch H.fh, far H.cb H.fb, far H.cp H.fp, H.lo, H.below.trans h4⟩, h2, h3⟩
theorem ne_types {k j : Nat} {c1 c2 : Array Value} {t1 t2 : TypeId} (h1 : W.heap[k]? = some (.cells c1 t1 (0, 0))) (h2 : W.heap[j]? = some (.cells c2 t2 (0, 0))) (ht : t1 ≠ t2) : k ≠ j := by
  rintro rfl
  rw [h1] at h2
  simp at h2
  exact ht h2.2
theorem stb_good (H : StB w W n l a h b g p x gd F) (gd' : Nat) : StB w (W.setCell ⟨b, 0, none⟩ (.int .i64 gd')) n l a h b g p x gd' F :=
  ⟨blk_far H.cs (ne_types H.cs H.cb (by decide)) _, blk_far H.ch (ne_types H.ch H.cb (by decide)) _, blk_set H.cb 0 _, blk_far H.cp (ne_types H.cp H.cb (by decide)) _,
    sc_kept H.sc (Kept.setCell (S := fun i => i = b) (Kept.refl _ _) (Or.inl rfl) _) (fun k hf e => H.fb (e ▸ hf)), H.fa, H.fh, H.fb, H.fp, H.lo, H.below.setCell H.lo.2.2.1 _⟩
end
/-- One round of Scan. -/
def step1 (n : Int) (l : List UInt8) (x : Sc) (gd : Nat) : Sc × Int :=
  if (nextN (l.drop gd)).2.2 ≠ 0 then (x, (nextN (l.drop gd)).2.2)
  else if (takeG (nextN (l.drop gd)).1).2 ≠ 0 then (x, (takeG (nextN (l.drop gd)).1).2)
  else stakeS n x (takeG (nextN (l.drop gd)).1).1
theorem scan_step (n : Int) (l : List UInt8) (f : Nat) (x : Sc) (gd : Nat) (hc : gd < l.length ∨ x.begun = false) :
    scanN n l (f + 1) x gd = if (step1 n l x gd).2 ≠ 0 then ((step1 n l x gd).1, gd, (step1 n l x gd).2) else scanN n l f (step1 n l x gd).1 (gd + (nextN (l.drop gd)).2.1.toNat) := by
  rw [scanN, if_pos hc]
  unfold step1
  by_cases h1 : (nextN (l.drop gd)).2.2 ≠ 0
  · rw [if_pos h1, if_pos h1, if_pos h1]
  rw [if_neg h1, if_neg h1]
  by_cases h2 : (takeG (nextN (l.drop gd)).1).2 ≠ 0
  · rw [if_pos h2, if_pos h2, if_pos h2]
  rw [if_neg h2, if_neg h2]
theorem scan_done (n : Int) (l : List UInt8) (f : Nat) (x : Sc) (gd : Nat) (hc : ¬ (gd < l.length ∨ x.begun = false)) : scanN n l (f + 1) x gd = (x, gd, 0) := by rw [scanN, if_neg hc]
theorem step1_next {n : Int} {l : List UInt8} {x : Sc} {gd : Nat} (h : (step1 n l x gd).2 = 0) : (nextN (l.drop gd)).2.2 = 0 := by
  unfold step1 at h
  by_cases h1 : (nextN (l.drop gd)).2.2 ≠ 0
  · rw [if_pos h1] at h; exact absurd h h1
  · exact Decidable.not_not.1 h1
theorem step1_good {x : Sc} (hx : x.Good) (n : Int) (l : List UInt8) (gd : Nat) : (step1 n l x gd).1.Good := by
  unfold step1
  split
  · exact hx
  · split
    · exact hx
    · rename_i h
      exact good_step hx (take_may (Decidable.not_not.1 h)) n
theorem step1_len (n : Int) (l : List UInt8) (x : Sc) (gd : Nat) : (step1 n l x gd).1.l.length ≤ x.l.length + 1 := by
  unfold step1
  split
  · simp
  · split
    · simp
    · exact len_step _ _ _
theorem scan_res {tmps : Array Value} {w : World} (h b : Nat) (R : Rec) (gd : Nat) (h4 : tmps.getD 4 undef = .pointer (some ⟨h, 0, none⟩)) (h6 : tmps.getD 6 undef = .pointer (some ⟨b, 0, none⟩)) (hh : w.heap[h]? = some (.cells R.cells 51 (0, 0))) (hb : w.heap[b]? = some (.cells #[.int .i64 gd] 3 (0, 0))) :
    (results Tryd.f20 tmps).run Tryd.prog w = .ok (.tuple #[R.val, tmps.getD 5 undef, .int .i64 gd, tmps.getD 7 undef]) w := by
  have c6 : w.cell? ⟨b, 0, none⟩ = some (.int .i64 gd) := blk_cell hb 0
  have h1 := run_loadVar_row (P := Tryd.prog) w h 51 51 R.cells (0, 0) _ hh Tryd.underlying51 rfl info51
  have h3 : (loadVar 3 ⟨b, 0, none⟩).run Tryd.prog w = .ok (.int .i64 gd) w := by simp [go_sem, c6]
  unfold results
  rw [Tryd.results20, show (#[ResultVar.cell 4 51, .tmp 5, .cell 6 3, .tmp 7] : Array ResultVar) = [ResultVar.cell 4 51, .tmp 5, .cell 6 3, .tmp 7].toArray from rfl, List.mapM_toArray]
  simp only [List.mapM_cons, List.mapM_nil, Sem.run_bind, Sem.run_map, Sem.run_pure, Result.andThen_ok, h4, h6, asAddr, h1, h3]
  rfl
end Go.Proofs.YtnhjhaphfdlkfaaDoor.Sg
/- One round of Scan. -/
set_option linter.unusedVariables false
set_option linter.unusedSimpArgs false
namespace Go.Proofs.YtnhjhaphfdlkfaaDoor.Sg
open Go.RowKit Go.Proofs.YtnhjhaphfdlkfaaDoor.HF Go.Proofs.YtnhjhaphfdlkfaaDoor.SB Go.Proofs.YtnhjhaphfdlkfaaDoorW.PrintWords Go.Proofs.YtnhjhaphfdlkfaaDoorW.PrintLast Go.Proofs.YtnhjhaphfdlkfaaDoorW.PrintMore
def kF : Nat → FuncId
  | 0 => 48
  | 1 => 49
  | _ => 51
def cF (a b c d p q : Nat) : Nat → Array Value
  | 0 => #[.pointer (some ⟨a, 0, none⟩), .pointer (some ⟨b, 0, none⟩), .pointer (some ⟨c, 0, none⟩), .pointer (some ⟨d, 0, none⟩)]
  | 1 => #[.pointer (some ⟨c, 0, none⟩), .pointer (some ⟨q, 0, none⟩)]
  | _ => #[.pointer (some ⟨p, 0, none⟩), .pointer (some ⟨q, 0, none⟩)]
def rowF (a b c d p q : Nat) : Array Value := #[.func (.func 48) #[] (cF a b c d p q 0), .func (.func 49) #[] (cF a b c d p q 1), .func (.func 51) #[] (cF a b c d p q 2)]
theorem enter48 (args : Array Value) (W : World) : (callFunc 48 args).run Tryd.prog W = .ok (.enter 48 args) W := by rfl
theorem enter49 (args : Array Value) (W : World) : (callFunc 49 args).run Tryd.prog W = .ok (.enter 49 args) W := by rfl
theorem enter51 (args : Array Value) (W : World) : (callFunc 51 args).run Tryd.prog W = .ok (.enter 51 args) W := by rfl
structure Al (w W : World) (n : Int) (l : List UInt8) (a h b g p : Nat) (x : Sc) (gd : Nat) (F : Nat → Prop) (c d q v : Nat) (vc vd : Value) (R : Rec) : Prop where
  st : StB w W n l a h b g p x gd F
  hc : W.heap[c]? = some (.cells #[vc] 9 (0, 0))
  hd : W.heap[d]? = some (.cells #[vd] 3 (0, 0))
  hq : W.heap[q]? = some (.cells R.cells 51 (0, 0))
  hv : W.heap[v]? = some (.cells (rowF a b c d p q) 91 (0, 0))
theorem three_calls (w W : World) (n : Int) (l : List UInt8) (a h b g p : Nat) (x : Sc) (gd : Nat) (F : Nat → Prop) (c d q v : Nat) (vc vd : Value) (R0 : Rec) (H : Al w W n l a h b g p x gd F c d q v vc vd R0) (hl : l.length ≤ 100000) (HL : Lay w) (hx : x.Good) (hfew : x.l.length ≤ gd) (hgd : gd ≤ l.length)
    (hca : c ≠ a) (hdb : d ≠ b) (hqh : q ≠ h) (hFc : ¬ F c) (hFd : ¬ F d) (hFq : ¬ F q) (hFv : ¬ F v) (hlo : w.heap.size ≤ c ∧ w.heap.size ≤ d ∧ w.heap.size ≤ q) :
    Calls Tryd.prog 47 #[.slice (some ⟨v, 0, none⟩) 3 3] W fun e W' => e = .returned (.int .i64 (step1 n l x gd).2) ∧ ∃ F', StB w W' n l a h b g p (step1 n l x gd).1 gd F' ∧ ((step1 n l x gd).2 = 0 → W'.heap[d]? = some (.cells #[.int .i64 (nextN (l.drop gd)).2.1] 3 (0, 0))) := by
  have hN : (nextN (l.drop gd)).1.length ≤ 100000 := by
    have := next_text_len (l.drop gd)
    rw [List.length_drop] at this
    omega
  have hm := @take_may (nextN (l.drop gd)).1
  have hS0 : (nextN (l.drop gd)).2.2 ≠ 0 → step1 n l x gd = (x, (nextN (l.drop gd)).2.2) := fun h => if_pos h
  have hS1 : (nextN (l.drop gd)).2.2 = 0 → (takeG (nextN (l.drop gd)).1).2 ≠ 0 → step1 n l x gd = (x, (takeG (nextN (l.drop gd)).1).2) := fun h h1 => (if_neg (fun h2 => h2 h)).trans (if_pos h1)
  have hS2 : (nextN (l.drop gd)).2.2 = 0 → (takeG (nextN (l.drop gd)).1).2 = 0 → step1 n l x gd = stakeS n x (takeG (nextN (l.drop gd)).1).1 := fun h h1 => (if_neg (fun h2 => h2 h)).trans (if_neg (fun h2 => h2 h1))
  have H48 := fun W1 vc vd (R : Rec) (h : Al w W1 n l a h b g p x gd F c d q v vc vd R) => close48 W1 w.heap.size a b c d l gd vc vd hl hgd (Crc.laid_below HL h.st.below) h.st.cs h.st.cb h.hc h.hd (ne_types h.hc h.hd (by decide)) hlo.1 hlo.2.1
  generalize nextN (l.drop gd) = N at *
  obtain ⟨T, m, e1⟩ := N
  simp only at *
  have H49 := fun W1 vd (R : Rec) (h : Al w W1 n l a h b g p x gd F c d q v (.string (bs T)) vd R) => close49 W1 w.heap.size c q T R hN h.hc h.hq hlo.2.2
  generalize takeG T = U at *
  obtain ⟨R1, e2⟩ := U
  simp only at *
  have step : ∀ {W1 W2 : World} {S : Nat → Prop} {vc vd vc2 vd2 : Value} {R R2 : Rec}, Al w W1 n l a h b g p x gd F c d q v vc vd R → Kept W1 W2 S → (∀ k, S k → k = c ∨ k = d ∨ k = q) → Below w.heap.size W1 W2 → W2.heap[c]? = some (.cells #[vc2] 9 (0, 0)) → W2.heap[d]? = some (.cells #[vd2] 3 (0, 0)) → W2.heap[q]? = some (.cells R2.cells 51 (0, 0)) → Al w W2 n l a h b g p x gd F c d q v vc2 vd2 R2 := by
    intro W1 W2 S vc vd vc2 vd2 R R2 A hk hS hB h1 h2 h3
    have no : ∀ k, k ≠ c → k ≠ d → k ≠ q → ¬ S k := fun k n1 n2 n3 hs => by rcases hS k hs with e | e | e; exact n1 e; exact n2 e; exact n3 e
    refine ⟨stb_kept A.st hk (fun k hf => no k (fun e => hFc (e ▸ hf)) (fun e => hFd (e ▸ hf)) (fun e => hFq (e ▸ hf))) (no a hca.symm (ne_types A.st.cs A.hd (by decide)) (ne_types A.st.cs A.hq (by decide))) (no h (ne_types A.st.ch A.hc (by decide)) (ne_types A.st.ch A.hd (by decide)) hqh.symm)
      (no b (ne_types A.st.cb A.hc (by decide)) hdb.symm (ne_types A.st.cb A.hq (by decide))) (no p (ne_types A.st.cp A.hc (by decide)) (ne_types A.st.cp A.hd (by decide)) (ne_types A.st.cp A.hq (by decide))) (A.st.below.trans hB), h1, h2, h3, ?_⟩
    exact blk_kept A.hv hk (no v (ne_types A.hv A.hc (by decide)) (ne_types A.hv A.hd (by decide)) (ne_types A.hv A.hq (by decide)))
  refine (first_calls W v kF (cF a b c d p q)
    (fun j W1 => (j = 0 ∧ ∃ vc vd R, Al w W1 n l a h b g p x gd F c d q v vc vd R) ∨ (j = 1 ∧ e1 = 0 ∧ ∃ R, Al w W1 n l a h b g p x gd F c d q v (.string (bs T)) (.int .i64 m) R) ∨ (j = 2 ∧ e1 = 0 ∧ e2 = 0 ∧ ∃ vc, Al w W1 n l a h b g p x gd F c d q v vc (.int .i64 m) R1) ∨ (j = 3 ∧ (step1 n l x gd).2 = 0 ∧ W1.heap[v]? = some (.cells (rowF a b c d p q) 91 (0, 0)) ∧ W1.heap[d]? = some (.cells #[.int .i64 m] 3 (0, 0)) ∧ ∃ F', StB w W1 n l a h b g p (step1 n l x gd).1 gd F'))
    (fun vv W1 => vv = (step1 n l x gd).2 ∧ ∃ F', StB w W1 n l a h b g p (step1 n l x gd).1 gd F' ∧ ((step1 n l x gd).2 = 0 → W1.heap[d]? = some (.cells #[.int .i64 m] 3 (0, 0))))
    ?_ ?_ ?_ ?_ ?_).mono ?_
  · intro j hj args W1
    rcases (by omega : j = 0 ∨ j = 1 ∨ j = 2) with rfl | rfl | rfl
    · exact enter48 args W1
    · exact enter49 args W1
    · exact enter51 args W1
  · rintro j W1 (⟨_, _, _, _, h⟩ | ⟨_, _, _, h⟩ | ⟨_, _, _, _, h⟩ | ⟨_, _, h, _⟩)
    · exact h.hv
    · exact h.hv
    · exact h.hv
    · exact h
  · intro j hj W1 hI
    rcases hI with ⟨rfl, vc1, vd1, R, A⟩ | ⟨rfl, he1, R, A⟩ | ⟨rfl, he1, he2, vc1, A⟩ | ⟨rfl, _⟩
    · refine (H48 W1 vc1 vd1 R A).mono ?_
      rintro e W2 ⟨rfl, h1, h2, hk, hB⟩
      have A2 := step A hk (fun k h => by rcases h with h | h; exact Or.inl h; exact Or.inr (Or.inl h)) hB h1 h2 (blk_kept A.hq hk (by rintro (e | e); exact ne_types A.hq A.hc (by decide) e; exact ne_types A.hq A.hd (by decide) e))
      refine ⟨e1, rfl, fun h => Or.inr (Or.inl ⟨rfl, h, R, A2⟩), fun h => ?_⟩
      rw [hS0 h]
      exact ⟨rfl, F, A2.st, fun h0 => absurd h0 h⟩
    · refine (H49 W1 _ R A).mono ?_
      rintro e W2 ⟨rfl, h1, hk, hB⟩
      have A2 := step A hk (fun k h => Or.inr (Or.inr h)) hB (blk_kept A.hc hk (ne_types A.hc A.hq (by decide))) (blk_kept A.hd hk (ne_types A.hd A.hq (by decide))) h1
      refine ⟨e2, rfl, fun h => Or.inr (Or.inr (Or.inl ⟨rfl, he1, h, _, A2⟩)), fun h => ?_⟩
      rw [hS1 he1 h]
      exact ⟨rfl, F, A2.st, fun h0 => absurd h0 h⟩
    · refine (close51 W1 w.heap.size g p q n x F R1 A.st.sc A.st.below.size (may_frame (hm he2)) ⟨hx.frames, by omega, hx.player⟩ A.st.cp A.hq).mono ?_
      rintro e W2 ⟨rfl, hD⟩
      have hS := hS2 he1 he2
      rw [← hS] at hD
      obtain ⟨F1, h1, h2, h3⟩ := stb_did A.st hD
      refine ⟨(stakeS n x R1).2, rfl, fun h => Or.inr (Or.inr (Or.inr ⟨rfl, by rw [hS]; exact h, blk_kept A.hv h3 hFv, blk_kept A.hd h3 hFd, F1, h1⟩)), fun h => ⟨by rw [hS], F1, h1, fun h0 => absurd (by rw [hS] at h0; exact h0) h⟩⟩
    · omega
  · rintro W1 (⟨h, _⟩ | ⟨h, _⟩ | ⟨h, _⟩ | ⟨_, h0, _, hd, F1, h1⟩)
    · omega
    · omega
    · omega
    · exact ⟨h0.symm, F1, h1, fun _ => hd⟩
  · exact Or.inl ⟨rfl, vc, vd, R0, H⟩
  · rintro e W1 ⟨vv, rfl, rfl, F1, h1, h2⟩
    exact ⟨rfl, F1, h1, h2⟩
end Go.Proofs.YtnhjhaphfdlkfaaDoor.Sg
/- Scan, walked. -/
set_option linter.unusedVariables false
set_option linter.unusedSimpArgs false
namespace Go.Proofs.YtnhjhaphfdlkfaaDoor.Sg
open Go.RowKit Go.Proofs.YtnhjhaphfdlkfaaDoor.HF Go.Proofs.YtnhjhaphfdlkfaaDoor.SB Go.Proofs.YtnhjhaphfdlkfaaDoorW.PrintWords Go.Proofs.YtnhjhaphfdlkfaaDoorW.PrintLast Go.Proofs.YtnhjhaphfdlkfaaDoorW.PrintMore
def world5 (w : World) (l : List UInt8) (n : Int) : World := ((((w.alloc (.cells #[.string (bs l)] 9)).alloc (.cells Rec.zero.cells 51)).alloc (.cells #[.int .i64 0] 3)).alloc (.cells (scCells n Sc.start (.slice none 0 0) (.slice none 0 0)) 102)).alloc (.cells #[.pointer (some ⟨w.heap.size + 1 + 1 + 1, 0, none⟩)] 100)
theorem start_st (w : World) (l : List UInt8) (n : Int) : StB w (world5 w l n) n l w.heap.size (w.heap.size + 1) (w.heap.size + 1 + 1) (w.heap.size + 1 + 1 + 1) (w.heap.size + 1 + 1 + 1 + 1) Sc.start 0 (fun k => k = w.heap.size + 1 + 1 + 1) := by
  have e1 : (w.alloc (.cells #[.string (bs l)] 9)).heap.size = w.heap.size + 1 := by simp
  have e2 : ((w.alloc (.cells #[.string (bs l)] 9)).alloc (.cells Rec.zero.cells 51)).heap.size = w.heap.size + 1 + 1 := by simp
  have e3 : (((w.alloc (.cells #[.string (bs l)] 9)).alloc (.cells Rec.zero.cells 51)).alloc (.cells #[.int .i64 0] 3)).heap.size = w.heap.size + 1 + 1 + 1 := by simp
  have e4 : ((((w.alloc (.cells #[.string (bs l)] 9)).alloc (.cells Rec.zero.cells 51)).alloc (.cells #[.int .i64 0] 3)).alloc (.cells (scCells n Sc.start (.slice none 0 0) (.slice none 0 0)) 102)).heap.size = w.heap.size + 1 + 1 + 1 + 1 := by simp
  have b0 := heap_alloc_new w (.cells #[.string (bs l)] 9)
  have b1 := heap_alloc_new (w.alloc (.cells #[.string (bs l)] 9)) (.cells Rec.zero.cells 51)
  have b2 := heap_alloc_new ((w.alloc (.cells #[.string (bs l)] 9)).alloc (.cells Rec.zero.cells 51)) (.cells #[.int .i64 0] 3)
  have b3 := heap_alloc_new (((w.alloc (.cells #[.string (bs l)] 9)).alloc (.cells Rec.zero.cells 51)).alloc (.cells #[.int .i64 0] 3)) (.cells (scCells n Sc.start (.slice none 0 0) (.slice none 0 0)) 102)
  have b4 := heap_alloc_new ((((w.alloc (.cells #[.string (bs l)] 9)).alloc (.cells Rec.zero.cells 51)).alloc (.cells #[.int .i64 0] 3)).alloc (.cells (scCells n Sc.start (.slice none 0 0) (.slice none 0 0)) 102)) (.cells #[.pointer (some ⟨w.heap.size + 1 + 1 + 1, 0, none⟩)] 100)
  rw [e1] at b1
  rw [e2] at b2
  rw [e3] at b3
  rw [e4] at b4
  refine ⟨blk_alloc (blk_alloc (blk_alloc (blk_alloc b0 _) _) _) _, blk_alloc (blk_alloc (blk_alloc b1 _) _) _, blk_alloc (blk_alloc b2 _) _, b4,
    ⟨.slice none 0 0, .slice none 0 0, blk_alloc b3 _, ⟨rfl, Or.inl ⟨rfl, none, rfl, by simp⟩⟩, ⟨rfl, Or.inl ⟨rfl, none, rfl, by simp⟩⟩, rfl, fun k e => by simp [Value.ownBlock] at e, fun k e => by simp [Value.ownBlock] at e, ?_⟩, by omega, by omega, by omega, by omega, by omega, ?_⟩
  · rintro k rfl
    exact ⟨by omega, blk_lt (blk_alloc b3 _)⟩
  · exact ((((((Below.refl w.heap.size w).alloc (by omega) _).alloc (by rw [e1]; omega) _).alloc (by rw [e2]; omega) _).alloc (by rw [e3]; omega) _).alloc (by rw [e4]; omega) _)
def world4 (W : World) (a b p : Nat) : World := (((W.alloc (.cells #[.string ⟨#[]⟩] 9)).alloc (.cells #[.int .i64 0] 3)).alloc (.cells Rec.zero.cells 51)).alloc (.cells (rowF a b W.heap.size (W.heap.size + 1) p (W.heap.size + 1 + 1)) 91)
theorem isc_lt {W : World} {base g : Nat} {n : Int} {x : Sc} {F : Nat → Prop} (h : IsSc W base g n x F) : ∀ k, F k → k < W.heap.size := by
  obtain ⟨_, _, _, _, _, _, _, _, h⟩ := h
  exact fun k hf => (h k hf).2
theorem round_calls (w W : World) (n : Int) (l : List UInt8) (a h b g p : Nat) (x : Sc) (gd : Nat) (F : Nat → Prop) (H : StB w W n l a h b g p x gd F) (hl : l.length ≤ 100000) (HL : Lay w) (hx : x.Good) (hfew : x.l.length ≤ gd) (hgd : gd ≤ l.length) :
    Calls Tryd.prog 47 #[.slice (some ⟨W.heap.size + 1 + 1 + 1, 0, none⟩) 3 3] (world4 W a b p) fun e W' => e = .returned (.int .i64 (step1 n l x gd).2) ∧ ∃ F', StB w W' n l a h b g p (step1 n l x gd).1 gd F' ∧ ((step1 n l x gd).2 = 0 → W'.heap[W.heap.size + 1]? = some (.cells #[.int .i64 (nextN (l.drop gd)).2.1] 3 (0, 0))) := by
  have e1 : (W.alloc (.cells #[.string ⟨#[]⟩] 9)).heap.size = W.heap.size + 1 := by simp
  have e2 : ((W.alloc (.cells #[.string ⟨#[]⟩] 9)).alloc (.cells #[.int .i64 0] 3)).heap.size = W.heap.size + 1 + 1 := by simp
  have e3 : (((W.alloc (.cells #[.string ⟨#[]⟩] 9)).alloc (.cells #[.int .i64 0] 3)).alloc (.cells Rec.zero.cells 51)).heap.size = W.heap.size + 1 + 1 + 1 := by simp
  have b0 := heap_alloc_new W (.cells #[.string ⟨#[]⟩] 9)
  have b1 := heap_alloc_new (W.alloc (.cells #[.string ⟨#[]⟩] 9)) (.cells #[.int .i64 0] 3)
  have b2 := heap_alloc_new ((W.alloc (.cells #[.string ⟨#[]⟩] 9)).alloc (.cells #[.int .i64 0] 3)) (.cells Rec.zero.cells 51)
  have b3 := heap_alloc_new (((W.alloc (.cells #[.string ⟨#[]⟩] 9)).alloc (.cells #[.int .i64 0] 3)).alloc (.cells Rec.zero.cells 51)) (.cells (rowF a b W.heap.size (W.heap.size + 1) p (W.heap.size + 1 + 1)) 91)
  rw [e1] at b1
  rw [e2] at b2
  rw [e3] at b3
  have hwW := H.below.size
  have hlt := isc_lt H.sc
  have la := blk_lt H.cs
  have lh := blk_lt H.ch
  have lb := blk_lt H.cb
  refine three_calls w _ n l a h b g p x gd F W.heap.size (W.heap.size + 1) (W.heap.size + 1 + 1) (W.heap.size + 1 + 1 + 1) _ _ Rec.zero ⟨?_, blk_alloc (blk_alloc (blk_alloc b0 _) _) _, blk_alloc (blk_alloc b1 _) _, blk_alloc b2 _, b3⟩ hl HL hx hfew hgd (by omega) (by omega) (by omega)
    (fun hf => by have := hlt _ hf; omega) (fun hf => by have := hlt _ hf; omega) (fun hf => by have := hlt _ hf; omega) (fun hf => by have := hlt _ hf; omega) ⟨by omega, by omega, by omega⟩
  exact stb_free H (((((Kept.refl W (fun _ => False)).alloc _).alloc _).alloc _).alloc _) ((((H.below.alloc hwW _).alloc (by rw [e1]; omega) _).alloc (by rw [e2]; omega) _).alloc (by rw [e3]; omega) _)
set_option maxHeartbeats 1000000 in
set_option maxRecDepth 100000 in
theorem scan_calls (w : World) (n : Int) (l : List UInt8) (hl : l.length ≤ 100000) (HL : Lay w) :
    Calls Tryd.prog 20 #[.string (bs l), .int .u64 n] w fun e w' => ∃ vl, e = .returned (.tuple #[(scanG n l).1.head.val, vl, .int .i64 (scanG n l).2.1, .int .i64 (scanG n l).2.2]) ∧ QRow w' w.heap.size 51 9 vl (scanG n l).1.l.length (flatR (scanG n l).1.l) ∧ Below w.heap.size w w' := by
  have hmf := mf
  have HLy := Lib.hid HL
  have HS0 := Lib.hid (start_st w l n)
  clear HL
  go_enter Tryd.func20, Tryd.ntmps20
  go_wp2_with fail
  generalize hw5 : ((((w.alloc (.cells #[.string (bs l)] 9)).alloc _).alloc _).alloc _).alloc _ = w5
  rw [show world5 w l n = w5 from hw5] at HS0
  clear hw5
  generalize w.heap.size + 1 + 1 + 1 + 1 = p at HS0 ⊢
  generalize w.heap.size + 1 + 1 + 1 = g at HS0 ⊢
  generalize w.heap.size + 1 + 1 = b at HS0 ⊢
  generalize w.heap.size + 1 = h at HS0 ⊢
  generalize ha : w.heap.size = a at HS0 ⊢
  have HA := Lib.hid ha
  clear ha
  go_loopg [7] (l.length + 8) (fun gk t7 wr => ∃ (f : Nat) (x : Sc) (gd : Nat) (err : Int) (F : Nat → Prop), t7 = .int .i64 err ∧ StB w wr n l a h b g p x gd F ∧ x.Good ∧ gd ≤ l.length ∧ 1 ≤ gk ∧ ((err = 0 ∧ scanG n l = scanN n l f x gd ∧ f ≤ gk ∧ l.length + 2 ≤ f + gd ∧ x.l.length ≤ gd) ∨ (err ≠ 0 ∧ scanG n l = (x, gd, err))))
  case atStart =>
    exact ⟨l.length + 8, Sc.start, 0, 0, _, rfl, HS0.out, good_start, by omega, by omega, Or.inl ⟨rfl, rfl, by omega, by omega, by simp [Sc.start]⟩⟩
  case round =>
    obtain ⟨f, x, gd, err, F, rfl, hS, hG, hgd, hg1, hor⟩ := hrel
    have ca : wr.cell? ⟨a, 0, none⟩ = some (.string (bs l)) := blk_cell hS.cs 0
    have cb : wr.cell? ⟨b, 0, none⟩ = some (.int .i64 gd) := blk_cell hS.cb 0
    have cp : wr.cell? ⟨p, 0, none⟩ = some (.pointer (some ⟨g, 0, none⟩)) := blk_cell hS.cp 0
    obtain ⟨vl, vo, hgb, hql, _, _, hFv, _, _⟩ := id hS.sc
    have c11 : wr.cell? ⟨g, 11, none⟩ = some (.bool x.begun) := blk_cell hgb 11
    have hls : ((bs l).size : Int) = l.length := by rw [bs_size]
    have HS := Lib.hid hS
    have HGb := Lib.hid hgb
    have HQl := Lib.hid hql
    have HFv := Lib.hid (show ∀ k, vl.ownBlock = some k → F k from hFv)
    have HG := Lib.hid hG
    clear hS hgb hql hG HS0 hFv
    rcases hor with ⟨rfl, hsc, hfg, hf, hfew⟩ | ⟨he, hsc⟩
    · obtain ⟨f0, rfl⟩ : ∃ f0, f = f0 + 1 := ⟨f - 1, by omega⟩
      have HSc := Lib.hid hsc
      clear hsc
      by_cases hc : gd < l.length ∨ x.begun = false
      · have HR := Lib.hid (round_calls w wr n l a h b g p x gd F HS.out hl HLy.out HG.out hfew hgd)
        by_cases hlt : gd < l.length
        · have hltb : decide ((gd : Int) < (l.length : Int)) = true := decide_eq_true (by omega)
          go_wp2_with fail
          refine (HR.out).mono ?_
          rintro e w2 ⟨rfl, F2, hS2, hd2⟩
          have HS2 := Lib.hid hS2
          clear hS2
          by_cases hz : (step1 n l x gd).2 = 0
          · have hzb : ((step1 n l x gd).2 == 0) = true := by simp [hz]
            have hd := hd2 hz
            have cd2 : w2.cell? ⟨wr.heap.size + 1, 0, none⟩ = some (.int .i64 (nextN (l.drop gd)).2.1) := blk_cell hd 0
            have cb2 : w2.cell? ⟨b, 0, none⟩ = some (.int .i64 gd) := blk_cell HS2.out.cb 0
            have zb2 : w2.frozen? ⟨b, 0, none⟩ = false := blk_frozen HS2.out.cb 0
            have HZ := Lib.hid hz
            have hnl := next_len (step1_next hz)
            rw [List.length_drop] at hnl
            obtain ⟨mm, hmm⟩ := Int.eq_ofNat_of_zero_le (show 0 ≤ (nextN (l.drop gd)).2.1 by omega)
            have HM := Lib.hid hmm
            rw [hmm] at cd2 hnl
            have hnew : wrap64 ((gd : Int) + mm) = (gd : Int) + mm := IntWalk.wrap64_in _ ⟨by omega, by have := hnl.2.1; omega⟩
            have HE := Lib.hid (show scanG n l = scanN n l f0 (step1 n l x gd).1 (gd + mm) by
              rw [HSc.out, scan_step n l f0 x gd hc, if_neg (fun h => h hz), hmm, Int.toNat_natCast])
            clear hd hd2 hz hmm
            go_wp2
            go_roundg (gk - 1)
            case rel =>
              exact ⟨f0, _, gd + mm, _, F2, rfl, stb_good HS2.out (gd + mm), step1_good HG.out n l gd, by have := hnl.2.1; omega, by omega, Or.inl ⟨HZ.out, HE.out, by omega, by omega, by have := step1_len n l x gd; omega⟩⟩
            all_goals omega
          · have hzb : ((step1 n l x gd).2 == 0) = false := by simp [hz]
            have HZ := Lib.hid hz
            have HE := Lib.hid (show scanG n l = ((step1 n l x gd).1, gd, (step1 n l x gd).2) by
              rw [HSc.out, scan_step n l f0 x gd hc, if_pos hz])
            clear hd2 hz
            go_wp2
            go_roundg (gk - 1)
            case rel =>
              exact ⟨f0, _, gd, _, F2, rfl, HS2.out, step1_good HG.out n l gd, hgd, by omega, Or.inr ⟨HZ.out, HE.out⟩⟩
            all_goals omega
        · have hltb : decide ((gd : Int) < (l.length : Int)) = false := decide_eq_false (by omega)
          have hbeg : x.begun = false := by rcases hc with h | h; exact absurd h hlt; exact h
          rw [hbeg] at c11
          go_wp2_with fail
          refine (HR.out).mono ?_
          rintro e w2 ⟨rfl, F2, hS2, hd2⟩
          have HS2 := Lib.hid hS2
          clear hS2
          by_cases hz : (step1 n l x gd).2 = 0
          · have hzb : ((step1 n l x gd).2 == 0) = true := by simp [hz]
            have hd := hd2 hz
            have cd2 : w2.cell? ⟨wr.heap.size + 1, 0, none⟩ = some (.int .i64 (nextN (l.drop gd)).2.1) := blk_cell hd 0
            have cb2 : w2.cell? ⟨b, 0, none⟩ = some (.int .i64 gd) := blk_cell HS2.out.cb 0
            have zb2 : w2.frozen? ⟨b, 0, none⟩ = false := blk_frozen HS2.out.cb 0
            have HZ := Lib.hid hz
            have hnl := next_len (step1_next hz)
            rw [List.length_drop] at hnl
            obtain ⟨mm, hmm⟩ := Int.eq_ofNat_of_zero_le (show 0 ≤ (nextN (l.drop gd)).2.1 by omega)
            have HM := Lib.hid hmm
            rw [hmm] at cd2 hnl
            have hnew : wrap64 ((gd : Int) + mm) = (gd : Int) + mm := IntWalk.wrap64_in _ ⟨by omega, by have := hnl.2.1; omega⟩
            have HE := Lib.hid (show scanG n l = scanN n l f0 (step1 n l x gd).1 (gd + mm) by
              rw [HSc.out, scan_step n l f0 x gd hc, if_neg (fun h => h hz), hmm, Int.toNat_natCast])
            exfalso
            omega
          · have hzb : ((step1 n l x gd).2 == 0) = false := by simp [hz]
            have HZ := Lib.hid hz
            have HE := Lib.hid (show scanG n l = ((step1 n l x gd).1, gd, (step1 n l x gd).2) by
              rw [HSc.out, scan_step n l f0 x gd hc, if_pos hz])
            clear hd2 hz
            go_wp2
            go_roundg (gk - 1)
            case rel =>
              exact ⟨f0, _, gd, _, F2, rfl, HS2.out, step1_good HG.out n l gd, hgd, by omega, Or.inr ⟨HZ.out, HE.out⟩⟩
            all_goals omega
      · have hltb : decide ((gd : Int) < (l.length : Int)) = false := decide_eq_false (by omega)
        have hbeg : x.begun = true := by cases h : x.begun; exact absurd (Or.inr h) hc; rfl
        rw [hbeg] at c11
        have HE := Lib.hid (show scanG n l = (x, gd, 0) by rw [HSc.out, scan_done n l f0 x gd hc])
        go_wp2_with fail
        refine start_ (n := 14) (S := (fun w' => w'.cell? ⟨p, 0, none⟩ = some (.pointer (some ⟨g, 0, none⟩)) ∧ w'.cell? ⟨g, 10, none⟩ = some vl ∧ w'.cell? ⟨b, 0, none⟩ = some (.int .i64 gd) ∧ w'.cell? ⟨g, 1, none⟩ = some (.int .i64 x.head.kind) ∧ w'.cell? ⟨g, 2, none⟩ = some (.int .u64 x.head.frame) ∧ w'.cell? ⟨g, 3, none⟩ = some (.int .u8 x.head.own) ∧ w'.cell? ⟨g, 4, none⟩ = some (.int .u8 x.head.p0) ∧ w'.cell? ⟨g, 5, none⟩ = some (.int .u8 x.head.p1) ∧ w'.cell? ⟨g, 6, none⟩ = some (.int .u64 x.head.seg) ∧ w'.cell? ⟨g, 7, none⟩ = some (.int .u64 x.head.first) ∧ w'.cell? ⟨g, 8, none⟩ = some (.int .u64 x.head.epoch) ∧ w'.cell? ⟨g, 9, none⟩ = some (.int .u8 x.head.player))) (ds := []) #[false, false, false, false, false, false, false, false, false, false, false, false, false, false] (by kernel_rfl) rfl rfl ⟨cp, blk_cell HGb.out 10, cb, blk_cell HGb.out 1, blk_cell HGb.out 2, blk_cell HGb.out 3, blk_cell HGb.out 4, blk_cell HGb.out 5, blk_cell HGb.out 6, blk_cell HGb.out 7, blk_cell HGb.out 8, blk_cell HGb.out 9⟩ (fun hHeld => ?_)
        clear cp cb ca c11
        have HBd := Lib.hid (pw_below_drewN HS.out.below 1)
        rw [show wr.drewN 1 = wr.drew from rfl] at HBd
        refine take_ (i := 0) (N := some 40) (v := ?_) (a' := ?_) #[true, false, false, false, false, false, false, false, false, false, false, false, false, false] rfl rfl (by kernel_rfl) (fun _ _ _ h => h) (Or.inl ⟨by rfl, ?_⟩) hHeld ?_ ?_
        rotate_left
        · rintro w' ⟨s0, s1, s2, s3, s4, s5, s6, s7, s8, s9, s10, s11⟩
          go_simp
          with_reducible rfl
        rotate_left
        · simp only [Act.put, List.setIfInBounds_toArray, List.set_cons_zero, List.set_cons_succ, i64_w, i32_w]
          rfl
        refine pure_ (i := 1) (N := some 41) (v := ?_) (a' := ?_) #[true, true, false, false, false, false, false, false, false, false, false, false, false, false] rfl rfl (by kernel_rfl) (fun _ _ _ h => h) (Or.inl ⟨by rfl, ?_⟩) ?_ ?_
        rotate_left
        · intro w'
          go_simp
          with_reducible rfl
        rotate_left
        · simp only [Act.put, List.setIfInBounds_toArray, List.set_cons_zero, List.set_cons_succ, i64_w, i32_w]
          rfl
        refine pure_ (i := 2) (N := some 42) (v := ?_) (a' := ?_) #[true, true, true, false, false, false, false, false, false, false, false, false, false, false] rfl rfl (by kernel_rfl) (fun _ _ _ h => h) (Or.inl ⟨by rfl, ?_⟩) ?_ ?_
        rotate_left
        · intro w'
          go_simp
          with_reducible rfl
        rotate_left
        · simp only [Act.put, List.setIfInBounds_toArray, List.set_cons_zero, List.set_cons_succ, i64_w, i32_w]
          rfl
        refine take_ (i := 3) (N := some 43) (v := ?_) (a' := ?_) #[true, true, true, true, false, false, false, false, false, false, false, false, false, false] rfl rfl (by kernel_rfl) (fun _ _ _ h => h) (Or.inl ⟨by rfl, ?_⟩) hHeld ?_ ?_
        rotate_left
        · rintro w' ⟨s0, s1, s2, s3, s4, s5, s6, s7, s8, s9, s10, s11⟩
          go_simp
          with_reducible rfl
        rotate_left
        · simp only [Act.put, List.setIfInBounds_toArray, List.set_cons_zero, List.set_cons_succ, i64_w, i32_w]
          rfl
        refine take_ (i := 4) (N := some 44) (v := ?_) (a' := ?_) #[true, true, true, true, true, false, false, false, false, false, false, false, false, false] rfl rfl (by kernel_rfl) (fun _ _ _ h => h) (Or.inl ⟨by rfl, ?_⟩) hHeld ?_ ?_
        rotate_left
        · rintro w' ⟨s0, s1, s2, s3, s4, s5, s6, s7, s8, s9, s10, s11⟩
          go_simp
          with_reducible rfl
        rotate_left
        · simp only [Act.put, List.setIfInBounds_toArray, List.set_cons_zero, List.set_cons_succ, i64_w, i32_w]
          rfl
        refine pure_ (i := 5) (N := some 45) (v := ?_) (a' := ?_) #[true, true, true, true, true, true, false, false, false, false, false, false, false, false] rfl rfl (by kernel_rfl) (fun _ _ _ h => h) (Or.inl ⟨by rfl, ?_⟩) ?_ ?_
        rotate_left
        · intro w'
          go_simp
          with_reducible rfl
        rotate_left
        · simp only [Act.put, List.setIfInBounds_toArray, List.set_cons_zero, List.set_cons_succ, i64_w, i32_w]
          rfl
        refine pure_ (i := 6) (N := some 46) (v := ?_) (a' := ?_) #[true, true, true, true, true, true, true, false, false, false, false, false, false, false] rfl rfl (by kernel_rfl) (fun _ _ _ h => h) (Or.inl ⟨by rfl, ?_⟩) ?_ ?_
        rotate_left
        · intro w'
          go_simp
          with_reducible rfl
        rotate_left
        · simp only [Act.put, List.setIfInBounds_toArray, List.set_cons_zero, List.set_cons_succ, i64_w, i32_w]
          rfl
        refine take_ (i := 7) (N := some 47) (v := ?_) (a' := ?_) #[true, true, true, true, true, true, true, true, false, false, false, false, false, false] rfl rfl (by kernel_rfl) (fun _ _ _ h => h) (Or.inl ⟨by rfl, ?_⟩) hHeld ?_ ?_
        rotate_left
        · rintro w' ⟨s0, s1, s2, s3, s4, s5, s6, s7, s8, s9, s10, s11⟩
          go_simp
          with_reducible rfl
        rotate_left
        · simp only [Act.put, List.setIfInBounds_toArray, List.set_cons_zero, List.set_cons_succ, i64_w, i32_w]
          rfl
        refine take_ (i := 8) (N := some 48) (v := ?_) (a' := ?_) #[true, true, true, true, true, true, true, true, true, false, false, false, false, false] rfl rfl (by kernel_rfl) (fun _ _ _ h => h) (Or.inl ⟨by rfl, ?_⟩) hHeld ?_ ?_
        rotate_left
        · rintro w' ⟨s0, s1, s2, s3, s4, s5, s6, s7, s8, s9, s10, s11⟩
          go_simp
          with_reducible rfl
        rotate_left
        · simp only [Act.put, List.setIfInBounds_toArray, List.set_cons_zero, List.set_cons_succ, i64_w, i32_w]
          rfl
        refine pure_ (i := 9) (N := some 49) (v := ?_) (a' := ?_) #[true, true, true, true, true, true, true, true, true, true, false, false, false, false] rfl rfl (by kernel_rfl) (fun _ _ _ h => h) (Or.inl ⟨by rfl, ?_⟩) ?_ ?_
        rotate_left
        · intro w'
          go_simp
          with_reducible rfl
        rotate_left
        · simp only [Act.put, List.setIfInBounds_toArray, List.set_cons_zero, List.set_cons_succ, i64_w, i32_w]
          rfl
        refine one_ (i := 10) (N := none) #[true, true, true, true, true, true, true, true, true, true, true, false, false, false] rfl rfl (by kernel_rfl) (by decide) (fun K hK => ?_)
        refine step_store_seg (W := wr.drew) (by rfl) 51 (.tmp 4) (.tmp 43) rfl info51 h 0 Rec.zero.cells 51 x.head (by rfl) (by rfl) HS.out.ch (by decide) ?_
        intro w6 hh6 hk6 hb6
        have HH6 := Lib.hid (show w6.heap[h]? = some (.cells x.head.cells 51 (0, 0)) from hh6)
        have HK6 := Lib.hid hk6
        have HB6 := Lib.hid (hb6 w.heap.size w HS.out.lo.2.1 HBd.out)
        have HG6 := Lib.hid (blk_kept (W := wr.drew) HGb.out hk6 (fun e => ne_types HGb.out HS.out.ch (by decide) e))
        have HP6 := Lib.hid (blk_kept (W := wr.drew) HS.out.cp hk6 (fun e => ne_types HS.out.cp HS.out.ch (by decide) e))
        have HC6 := Lib.hid (blk_kept (W := wr.drew) HS.out.cb hk6 (fun e => ne_types HS.out.cb HS.out.ch (by decide) e))
        clear hh6 hk6 hb6 hHeld
        refine hK.out _ _ ⟨blk_cell HP6.out 0, blk_cell HG6.out 10, blk_cell HC6.out 0, blk_cell HG6.out 1, blk_cell HG6.out 2, blk_cell HG6.out 3, blk_cell HG6.out 4, blk_cell HG6.out 5, blk_cell HG6.out 6, blk_cell HG6.out 7, blk_cell HG6.out 8, blk_cell HG6.out 9⟩ (fun hHeld => ?_)
        clear hK K
        refine pure_ (i := 11) (N := some 5) (v := ?_) (a' := ?_) #[true, true, true, true, true, true, true, true, true, true, true, true, false, false] rfl rfl (by kernel_rfl) (fun _ _ _ h => h) (Or.inl ⟨by rfl, ?_⟩) ?_ ?_
        rotate_left
        · intro w'
          go_simp
          with_reducible rfl
        rotate_left
        · simp only [Act.put, List.setIfInBounds_toArray, List.set_cons_zero, List.set_cons_succ, i64_w, i32_w]
          rfl
        refine one_ (i := 12) (N := none) #[true, true, true, true, true, true, true, true, true, true, true, true, true, false] rfl rfl (by kernel_rfl) (by decide) (fun K hK => ?_)
        have cb6 : w6.cell? ⟨b, 0, none⟩ = some (.int .i64 gd) := blk_cell HC6.out 0
        have zb6 : w6.frozen? ⟨b, 0, none⟩ = false := blk_frozen HC6.out 0
        refine skip_ (w1 := ?_) (by rfl) rfl ?_ ?_
        rotate_left
        · go_simp
          rfl
        clear hHeld
        refine hK.out _ _ ⟨blk_cell (blk_far HP6.out (ne_types HP6.out HC6.out (by decide)) _) 0, blk_cell (blk_far HG6.out (ne_types HG6.out HC6.out (by decide)) _) 10, blk_cell (blk_set HC6.out 0 _) 0, blk_cell (blk_far HG6.out (ne_types HG6.out HC6.out (by decide)) _) 1, blk_cell (blk_far HG6.out (ne_types HG6.out HC6.out (by decide)) _) 2, blk_cell (blk_far HG6.out (ne_types HG6.out HC6.out (by decide)) _) 3, blk_cell (blk_far HG6.out (ne_types HG6.out HC6.out (by decide)) _) 4, blk_cell (blk_far HG6.out (ne_types HG6.out HC6.out (by decide)) _) 5, blk_cell (blk_far HG6.out (ne_types HG6.out HC6.out (by decide)) _) 6, blk_cell (blk_far HG6.out (ne_types HG6.out HC6.out (by decide)) _) 7, blk_cell (blk_far HG6.out (ne_types HG6.out HC6.out (by decide)) _) 8, blk_cell (blk_far HG6.out (ne_types HG6.out HC6.out (by decide)) _) 9⟩ (fun hHeld => ?_)
        clear hK K hHeld
        refine pure_ (i := 13) (N := some 7) (v := ?_) (a' := ?_) #[true, true, true, true, true, true, true, true, true, true, true, true, true, true] rfl rfl (by kernel_rfl) (fun _ _ _ h => h) (Or.inl ⟨by rfl, ?_⟩) ?_ ?_
        rotate_left
        · intro w'
          go_simp
          with_reducible rfl
        rotate_left
        · simp only [Act.put, List.setIfInBounds_toArray, List.set_cons_zero, List.set_cons_succ, i64_w, i32_w]
          rfl
        refine done_ (by kernel_rfl) ?_
        have hhb : h ≠ b := ne_types HH6.out HC6.out (by decide)
        go_wp2_with fail
        refine bodyPost_ret (v := .tuple #[x.head.val, vl, .int .i64 gd, .int .i64 0]) (scan_res h b x.head gd rfl rfl (blk_far HH6.out hhb _) (blk_set HC6.out 0 _)) rfl ?_
        rw [HE.out]
        refine ⟨vl, rfl, q_move HQl.out (fun k e => ?_), HB6.out.setCell HS.out.lo.2.2.1 _⟩
        have hFk := HFv.out k e
        exact (Below.heap_setCell w6 ⟨b, 0, none⟩ _ k (fun e2 => HS.out.fb ((show k = b from e2) ▸ hFk))).trans (HK6.out.2 k (isc_lt HS.out.sc k hFk) (fun e2 => HS.out.fh (e2 ▸ hFk)))
    · have HSc := Lib.hid hsc
      have heb : (err == 0) = false := by simp [he]
      clear hsc
      have HE := HSc
      go_wp2_with fail
      refine start_ (n := 14) (S := (fun w' => w'.cell? ⟨p, 0, none⟩ = some (.pointer (some ⟨g, 0, none⟩)) ∧ w'.cell? ⟨g, 10, none⟩ = some vl ∧ w'.cell? ⟨b, 0, none⟩ = some (.int .i64 gd) ∧ w'.cell? ⟨g, 1, none⟩ = some (.int .i64 x.head.kind) ∧ w'.cell? ⟨g, 2, none⟩ = some (.int .u64 x.head.frame) ∧ w'.cell? ⟨g, 3, none⟩ = some (.int .u8 x.head.own) ∧ w'.cell? ⟨g, 4, none⟩ = some (.int .u8 x.head.p0) ∧ w'.cell? ⟨g, 5, none⟩ = some (.int .u8 x.head.p1) ∧ w'.cell? ⟨g, 6, none⟩ = some (.int .u64 x.head.seg) ∧ w'.cell? ⟨g, 7, none⟩ = some (.int .u64 x.head.first) ∧ w'.cell? ⟨g, 8, none⟩ = some (.int .u64 x.head.epoch) ∧ w'.cell? ⟨g, 9, none⟩ = some (.int .u8 x.head.player))) (ds := []) #[false, false, false, false, false, false, false, false, false, false, false, false, false, false] (by kernel_rfl) rfl rfl ⟨cp, blk_cell HGb.out 10, cb, blk_cell HGb.out 1, blk_cell HGb.out 2, blk_cell HGb.out 3, blk_cell HGb.out 4, blk_cell HGb.out 5, blk_cell HGb.out 6, blk_cell HGb.out 7, blk_cell HGb.out 8, blk_cell HGb.out 9⟩ (fun hHeld => ?_)
      clear cp cb ca c11
      have HBd := Lib.hid (pw_below_drewN HS.out.below 1)
      rw [show wr.drewN 1 = wr.drew from rfl] at HBd
      refine take_ (i := 0) (N := some 40) (v := ?_) (a' := ?_) #[true, false, false, false, false, false, false, false, false, false, false, false, false, false] rfl rfl (by kernel_rfl) (fun _ _ _ h => h) (Or.inl ⟨by rfl, ?_⟩) hHeld ?_ ?_
      rotate_left
      · rintro w' ⟨s0, s1, s2, s3, s4, s5, s6, s7, s8, s9, s10, s11⟩
        go_simp
        with_reducible rfl
      rotate_left
      · simp only [Act.put, List.setIfInBounds_toArray, List.set_cons_zero, List.set_cons_succ, i64_w, i32_w]
        rfl
      refine pure_ (i := 1) (N := some 41) (v := ?_) (a' := ?_) #[true, true, false, false, false, false, false, false, false, false, false, false, false, false] rfl rfl (by kernel_rfl) (fun _ _ _ h => h) (Or.inl ⟨by rfl, ?_⟩) ?_ ?_
      rotate_left
      · intro w'
        go_simp
        with_reducible rfl
      rotate_left
      · simp only [Act.put, List.setIfInBounds_toArray, List.set_cons_zero, List.set_cons_succ, i64_w, i32_w]
        rfl
      refine pure_ (i := 2) (N := some 42) (v := ?_) (a' := ?_) #[true, true, true, false, false, false, false, false, false, false, false, false, false, false] rfl rfl (by kernel_rfl) (fun _ _ _ h => h) (Or.inl ⟨by rfl, ?_⟩) ?_ ?_
      rotate_left
      · intro w'
        go_simp
        with_reducible rfl
      rotate_left
      · simp only [Act.put, List.setIfInBounds_toArray, List.set_cons_zero, List.set_cons_succ, i64_w, i32_w]
        rfl
      refine take_ (i := 3) (N := some 43) (v := ?_) (a' := ?_) #[true, true, true, true, false, false, false, false, false, false, false, false, false, false] rfl rfl (by kernel_rfl) (fun _ _ _ h => h) (Or.inl ⟨by rfl, ?_⟩) hHeld ?_ ?_
      rotate_left
      · rintro w' ⟨s0, s1, s2, s3, s4, s5, s6, s7, s8, s9, s10, s11⟩
        go_simp
        with_reducible rfl
      rotate_left
      · simp only [Act.put, List.setIfInBounds_toArray, List.set_cons_zero, List.set_cons_succ, i64_w, i32_w]
        rfl
      refine take_ (i := 4) (N := some 44) (v := ?_) (a' := ?_) #[true, true, true, true, true, false, false, false, false, false, false, false, false, false] rfl rfl (by kernel_rfl) (fun _ _ _ h => h) (Or.inl ⟨by rfl, ?_⟩) hHeld ?_ ?_
      rotate_left
      · rintro w' ⟨s0, s1, s2, s3, s4, s5, s6, s7, s8, s9, s10, s11⟩
        go_simp
        with_reducible rfl
      rotate_left
      · simp only [Act.put, List.setIfInBounds_toArray, List.set_cons_zero, List.set_cons_succ, i64_w, i32_w]
        rfl
      refine pure_ (i := 5) (N := some 45) (v := ?_) (a' := ?_) #[true, true, true, true, true, true, false, false, false, false, false, false, false, false] rfl rfl (by kernel_rfl) (fun _ _ _ h => h) (Or.inl ⟨by rfl, ?_⟩) ?_ ?_
      rotate_left
      · intro w'
        go_simp
        with_reducible rfl
      rotate_left
      · simp only [Act.put, List.setIfInBounds_toArray, List.set_cons_zero, List.set_cons_succ, i64_w, i32_w]
        rfl
      refine pure_ (i := 6) (N := some 46) (v := ?_) (a' := ?_) #[true, true, true, true, true, true, true, false, false, false, false, false, false, false] rfl rfl (by kernel_rfl) (fun _ _ _ h => h) (Or.inl ⟨by rfl, ?_⟩) ?_ ?_
      rotate_left
      · intro w'
        go_simp
        with_reducible rfl
      rotate_left
      · simp only [Act.put, List.setIfInBounds_toArray, List.set_cons_zero, List.set_cons_succ, i64_w, i32_w]
        rfl
      refine take_ (i := 7) (N := some 47) (v := ?_) (a' := ?_) #[true, true, true, true, true, true, true, true, false, false, false, false, false, false] rfl rfl (by kernel_rfl) (fun _ _ _ h => h) (Or.inl ⟨by rfl, ?_⟩) hHeld ?_ ?_
      rotate_left
      · rintro w' ⟨s0, s1, s2, s3, s4, s5, s6, s7, s8, s9, s10, s11⟩
        go_simp
        with_reducible rfl
      rotate_left
      · simp only [Act.put, List.setIfInBounds_toArray, List.set_cons_zero, List.set_cons_succ, i64_w, i32_w]
        rfl
      refine take_ (i := 8) (N := some 48) (v := ?_) (a' := ?_) #[true, true, true, true, true, true, true, true, true, false, false, false, false, false] rfl rfl (by kernel_rfl) (fun _ _ _ h => h) (Or.inl ⟨by rfl, ?_⟩) hHeld ?_ ?_
      rotate_left
      · rintro w' ⟨s0, s1, s2, s3, s4, s5, s6, s7, s8, s9, s10, s11⟩
        go_simp
        with_reducible rfl
      rotate_left
      · simp only [Act.put, List.setIfInBounds_toArray, List.set_cons_zero, List.set_cons_succ, i64_w, i32_w]
        rfl
      refine pure_ (i := 9) (N := some 49) (v := ?_) (a' := ?_) #[true, true, true, true, true, true, true, true, true, true, false, false, false, false] rfl rfl (by kernel_rfl) (fun _ _ _ h => h) (Or.inl ⟨by rfl, ?_⟩) ?_ ?_
      rotate_left
      · intro w'
        go_simp
        with_reducible rfl
      rotate_left
      · simp only [Act.put, List.setIfInBounds_toArray, List.set_cons_zero, List.set_cons_succ, i64_w, i32_w]
        rfl
      refine one_ (i := 10) (N := none) #[true, true, true, true, true, true, true, true, true, true, true, false, false, false] rfl rfl (by kernel_rfl) (by decide) (fun K hK => ?_)
      refine step_store_seg (W := wr.drew) (by rfl) 51 (.tmp 4) (.tmp 43) rfl info51 h 0 Rec.zero.cells 51 x.head (by rfl) (by rfl) HS.out.ch (by decide) ?_
      intro w6 hh6 hk6 hb6
      have HH6 := Lib.hid (show w6.heap[h]? = some (.cells x.head.cells 51 (0, 0)) from hh6)
      have HK6 := Lib.hid hk6
      have HB6 := Lib.hid (hb6 w.heap.size w HS.out.lo.2.1 HBd.out)
      have HG6 := Lib.hid (blk_kept (W := wr.drew) HGb.out hk6 (fun e => ne_types HGb.out HS.out.ch (by decide) e))
      have HP6 := Lib.hid (blk_kept (W := wr.drew) HS.out.cp hk6 (fun e => ne_types HS.out.cp HS.out.ch (by decide) e))
      have HC6 := Lib.hid (blk_kept (W := wr.drew) HS.out.cb hk6 (fun e => ne_types HS.out.cb HS.out.ch (by decide) e))
      clear hh6 hk6 hb6 hHeld
      refine hK.out _ _ ⟨blk_cell HP6.out 0, blk_cell HG6.out 10, blk_cell HC6.out 0, blk_cell HG6.out 1, blk_cell HG6.out 2, blk_cell HG6.out 3, blk_cell HG6.out 4, blk_cell HG6.out 5, blk_cell HG6.out 6, blk_cell HG6.out 7, blk_cell HG6.out 8, blk_cell HG6.out 9⟩ (fun hHeld => ?_)
      clear hK K
      refine pure_ (i := 11) (N := some 5) (v := ?_) (a' := ?_) #[true, true, true, true, true, true, true, true, true, true, true, true, false, false] rfl rfl (by kernel_rfl) (fun _ _ _ h => h) (Or.inl ⟨by rfl, ?_⟩) ?_ ?_
      rotate_left
      · intro w'
        go_simp
        with_reducible rfl
      rotate_left
      · simp only [Act.put, List.setIfInBounds_toArray, List.set_cons_zero, List.set_cons_succ, i64_w, i32_w]
        rfl
      refine one_ (i := 12) (N := none) #[true, true, true, true, true, true, true, true, true, true, true, true, true, false] rfl rfl (by kernel_rfl) (by decide) (fun K hK => ?_)
      have cb6 : w6.cell? ⟨b, 0, none⟩ = some (.int .i64 gd) := blk_cell HC6.out 0
      have zb6 : w6.frozen? ⟨b, 0, none⟩ = false := blk_frozen HC6.out 0
      refine skip_ (w1 := ?_) (by rfl) rfl ?_ ?_
      rotate_left
      · go_simp
        rfl
      clear hHeld
      refine hK.out _ _ ⟨blk_cell (blk_far HP6.out (ne_types HP6.out HC6.out (by decide)) _) 0, blk_cell (blk_far HG6.out (ne_types HG6.out HC6.out (by decide)) _) 10, blk_cell (blk_set HC6.out 0 _) 0, blk_cell (blk_far HG6.out (ne_types HG6.out HC6.out (by decide)) _) 1, blk_cell (blk_far HG6.out (ne_types HG6.out HC6.out (by decide)) _) 2, blk_cell (blk_far HG6.out (ne_types HG6.out HC6.out (by decide)) _) 3, blk_cell (blk_far HG6.out (ne_types HG6.out HC6.out (by decide)) _) 4, blk_cell (blk_far HG6.out (ne_types HG6.out HC6.out (by decide)) _) 5, blk_cell (blk_far HG6.out (ne_types HG6.out HC6.out (by decide)) _) 6, blk_cell (blk_far HG6.out (ne_types HG6.out HC6.out (by decide)) _) 7, blk_cell (blk_far HG6.out (ne_types HG6.out HC6.out (by decide)) _) 8, blk_cell (blk_far HG6.out (ne_types HG6.out HC6.out (by decide)) _) 9⟩ (fun hHeld => ?_)
      clear hK K hHeld
      refine pure_ (i := 13) (N := some 7) (v := ?_) (a' := ?_) #[true, true, true, true, true, true, true, true, true, true, true, true, true, true] rfl rfl (by kernel_rfl) (fun _ _ _ h => h) (Or.inl ⟨by rfl, ?_⟩) ?_ ?_
      rotate_left
      · intro w'
        go_simp
        with_reducible rfl
      rotate_left
      · simp only [Act.put, List.setIfInBounds_toArray, List.set_cons_zero, List.set_cons_succ, i64_w, i32_w]
        rfl
      refine done_ (by kernel_rfl) ?_
      have hhb : h ≠ b := ne_types HH6.out HC6.out (by decide)
      go_wp2_with fail
      refine bodyPost_ret (v := .tuple #[x.head.val, vl, .int .i64 gd, .int .i64 err]) (scan_res h b x.head gd rfl rfl (blk_far HH6.out hhb _) (blk_set HC6.out 0 _)) rfl ?_
      rw [HE.out]
      refine ⟨vl, rfl, q_move HQl.out (fun k e => ?_), HB6.out.setCell HS.out.lo.2.2.1 _⟩
      have hFk := HFv.out k e
      exact (Below.heap_setCell w6 ⟨b, 0, none⟩ _ k (fun e2 => HS.out.fb ((show k = b from e2) ▸ hFk))).trans (HK6.out.2 k (isc_lt HS.out.sc k hFk) (fun e2 => HS.out.fh (e2 ▸ hFk)))
end Go.Proofs.YtnhjhaphfdlkfaaDoor.Sg
/- The document: numbers. -/
set_option linter.unusedVariables false
set_option linter.unusedSimpArgs false
namespace Go.Proofs.YtnhjhaphfdlkfaaDoor.Sg
open Go.RowKit Go.Proofs.YtnhjhaphfdlkfaaDoor.HF Go.Proofs.YtnhjhaphfdlkfaaDoor.SB Go.Proofs.YtnhjhaphfdlkfaaDoorW.PrintWords Go.Proofs.YtnhjhaphfdlkfaaDoorW.PrintLast Go.Proofs.YtnhjhaphfdlkfaaDoorW.PrintMore
theorem bs_at (l : List UInt8) (k : Nat) (h : k < (bs l).size) : (bs l)[k] = l[k]'(by rw [bs_size] at h; exact h) := rfl
theorem num_step (l : List UInt8) (k m : Nat) (h : k < l.length) : numN ((l.drop k).take (m + 1)) = (l[k]).toNat + 256 * numN ((l.drop (k + 1)).take m) := by
  rw [List.drop_eq_getElem_cons h, List.take_succ_cons, numN]
set_option maxHeartbeats 1000000 in
set_option maxRecDepth 100000 in
theorem number_calls (l : List UInt8) (off : Nat) (h : off + 8 ≤ l.length) (hl : l.length ≤ 100000) (w : World) :
    Calls Tryd.prog 76 #[.string (bs l), .int .i64 off] w fun e w' => e = .returned (.int .u64 (numN ((l.drop off).take 8))) ∧ w' = w := by
  go_enter Tryd.func76, Tryd.ntmps76
  go_wp2_with fail
  go_loopw [5, 6] (fun t5 t6 wr => ∃ j : Nat, j ≤ 8 ∧ t6 = .int .i64 ((j : Int) - 1) ∧ t5 = .int .u64 (numN ((l.drop (off + j)).take (8 - j))) ∧ wr = w) (fun _ t6 _ => (intOf t6 + 1).toNat)
  case atStart => exact ⟨8, by omega, rfl, by simp [numN], rfl⟩
  case round =>
    obtain ⟨j, hj, rfl, rfl, rfl⟩ := hrel
    by_cases hz : j = 0
    · subst hz
      have hlt : decide ((0 : Int) ≤ -1) = false := by decide
      go_wp2
      go_ret
      exact ⟨by simp, rfl⟩
    · obtain ⟨i, rfl⟩ : ∃ i, j = i + 1 := ⟨j - 1, by omega⟩
      have hi : ((i + 1 : Nat) : Int) - 1 = i := by omega
      rw [hi]
      have hlt : decide ((0 : Int) ≤ (i : Int)) = true := decide_eq_true (by omega)
      have hb1 : off + i < (bs l).size := by rw [bs_size]; omega
      have hb2 : (off : Int) + i < (bs l).size := by omega
      have hb0 : 0 ≤ (off : Int) + i := by omega
      have hw : wrap64 ((off : Int) + i) = ((off + i : Nat) : Int) := by rw [IntWalk.wrap64_in _ ⟨by omega, by omega⟩]; omega
      have hst := num_step l (off + i) (7 - i) (by omega)
      rw [show 7 - i + 1 = 8 - i by omega, show off + i + 1 = off + (i + 1) by omega, show 7 - i = 8 - (i + 1) by omega] at hst
      have hlt8 := numN_lt ((l.drop (off + (i + 1))).take (8 - (i + 1)))
      rw [List.length_take, List.length_drop, Nat.min_eq_left (by omega)] at hlt8
      have hlt9 := Nat.lt_of_lt_of_le hlt8 (Nat.pow_le_pow_right (n := 256) (by decide) (show 8 - (i + 1) ≤ 7 by omega))
      have hby : (l[off + i]'(by omega)).toNat < 256 := (l[off + i]'(by omega)).toNat_lt
      generalize hN : numN ((l.drop (off + (i + 1))).take (8 - (i + 1))) = N at *
      have hm : IntKind.u64.wrap ((N : Int) * 256) = (N : Int) * 256 := IntWalk.u64_in _ ⟨by omega, by have : N < 72057594037927936 := hlt9; omega⟩
      have hN2 : N < 72057594037927936 := hlt9
      have hbe : (bs l)[off + i].toNat = (l[off + i]'(by omega)).toNat := rfl
      have hbw : IntKind.u64.wrap ((bs l)[off + i].toNat : Int) = ((l[off + i]'(by omega)).toNat : Int) := by rw [hbe]; exact IntWalk.u64_in _ ⟨by omega, by omega⟩
      have hsw : IntKind.u64.wrap ((N : Int) * 256 + ((l[off + i]'(by omega)).toNat : Int)) = (N : Int) * 256 + ((l[off + i]'(by omega)).toNat : Int) := IntWalk.u64_in _ ⟨by omega, by omega⟩
      go_wp2
      refine ⟨⟨i, by omega, rfl, ?_, trivial⟩, by simp [intOf]⟩
      rw [hst]
      congr 1
      omega
theorem eq49 (w : World) : (Op.equalIn 10000 49 (.agg #[.int .u8 0, .int .u8 0]) (.agg #[.int .u8 0, .int .u8 0])).run Tryd.prog w = .ok true w := (eqA49 9998 w 0 0 0 0).trans rfl
/-! May, of records whose fields of other kinds are 0. -/
set_option maxHeartbeats 1000000 in
set_option maxRecDepth 100000 in
theorem may1_calls (f o : Int) (w : World) : Calls Tryd.prog 77 #[(⟨1, f, o, 0, 0, 0, 0, 0, 0⟩ : Rec).val] w fun e w' => e = .returned (.bool (decide (o < 64))) ∧ Below w.heap.size w w' := by
  have heq := eq49
  unfold Rec.val Rec.cells
  by_cases ho : o < 64
  · have kd : decide (63 < o) = false := decide_eq_false (by omega)
    go_enter Tryd.func77, Tryd.ntmps77
    go_wp2
    go_ret
    exact ⟨by first | rfl | (simp; omega), ((Below.refl _ _).alloc (Nat.le_refl _) _).alloc (by simp) _⟩
  · have kd : decide (63 < o) = true := decide_eq_true (by omega)
    go_enter Tryd.func77, Tryd.ntmps77
    go_wp2
    go_ret
    exact ⟨by first | rfl | (simp; omega), (Below.refl _ _).alloc (Nat.le_refl _) _⟩
set_option maxHeartbeats 1000000 in
set_option maxRecDepth 100000 in
theorem may2_calls (f p q : Int) (w : World) : Calls Tryd.prog 77 #[(⟨2, f, 0, p, q, 0, 0, 0, 0⟩ : Rec).val] w fun e w' => e = .returned (.bool (decide (p < 64) && decide (q < 64))) ∧ Below w.heap.size w w' := by
  have heq := eq49
  unfold Rec.val Rec.cells
  by_cases hp : p < 64
  · have dp : decide (63 < p) = false := decide_eq_false (by omega)
    by_cases hq : q < 64
    · have dq : decide (63 < q) = false := decide_eq_false (by omega)
      go_enter Tryd.func77, Tryd.ntmps77
      go_wp2
      go_ret
      exact ⟨by first | rfl | (simp; omega), ((Below.refl _ _).alloc (Nat.le_refl _) _).alloc (by simp) _⟩
    · have dq : decide (63 < q) = true := decide_eq_true (by omega)
      go_enter Tryd.func77, Tryd.ntmps77
      go_wp2
      go_ret
      exact ⟨by first | rfl | (simp; omega), (Below.refl _ _).alloc (Nat.le_refl _) _⟩
  · have dp : decide (63 < p) = true := decide_eq_true (by omega)
    go_enter Tryd.func77, Tryd.ntmps77
    go_wp2
    go_ret
    exact ⟨by first | rfl | (simp; omega), (Below.refl _ _).alloc (Nat.le_refl _) _⟩
set_option maxHeartbeats 1000000 in
set_option maxRecDepth 100000 in
theorem may3_calls (s f e p : Int) (w : World) : Calls Tryd.prog 77 #[(⟨3, 0, 0, 0, 0, s, f, e, p⟩ : Rec).val] w fun e w' => e = .returned (.bool (decide (p ≤ 1))) ∧ Below w.heap.size w w' := by
  have heq := eq49
  unfold Rec.val Rec.cells
  by_cases hp : p ≤ 1
  · have dp : decide (1 < p) = false := decide_eq_false (by omega)
    go_enter Tryd.func77, Tryd.ntmps77
    go_wp2
    go_ret
    exact ⟨by first | rfl | (simp; omega), ((Below.refl _ _).alloc (Nat.le_refl _) _).alloc (by simp) _⟩
  · have dp : decide (1 < p) = true := decide_eq_true (by omega)
    go_enter Tryd.func77, Tryd.ntmps77
    go_wp2
    go_ret
    exact ⟨by first | rfl | (simp; omega), (Below.refl _ _).alloc (Nat.le_refl _) _⟩
end Go.Proofs.YtnhjhaphfdlkfaaDoor.Sg
/- The document: Long; Take in plain words. -/
set_option linter.unusedVariables false
set_option linter.unusedSimpArgs false
namespace Go.Proofs.YtnhjhaphfdlkfaaDoor.Sg
open Go.RowKit Go.Proofs.YtnhjhaphfdlkfaaDoor.HF Go.Proofs.YtnhjhaphfdlkfaaDoor.SB Go.Proofs.YtnhjhaphfdlkfaaDoorW.PrintWords Go.Proofs.YtnhjhaphfdlkfaaDoorW.PrintLast Go.Proofs.YtnhjhaphfdlkfaaDoorW.PrintMore
def longR (k : Nat) : Nat := if k = 1 then 10 else if k = 2 then 11 else 26
set_option maxHeartbeats 1000000 in
set_option maxRecDepth 100000 in
theorem long_calls (k : Nat) (hk : k = 1 ∨ k = 2 ∨ k = 3) (w : World) : Calls Tryd.prog 75 #[.int .i64 k] w fun e w' => e = .returned (.int .i64 (longR k)) ∧ Below w.heap.size w w' := by
  rcases hk with rfl | rfl | rfl
  all_goals
    go_enter Tryd.func75, Tryd.ntmps75
    go_wp2
    go_ret
    exact ⟨rfl, (Below.refl _ _).alloc (Nat.le_refl _) _⟩
/-- What the text of a record says, by its kind. -/
def recR (k : Nat) (l : List UInt8) : Rec :=
  if k = 1 then ⟨1, numN ((l.drop 1).take 8), (l.getD 9 0).toNat, 0, 0, 0, 0, 0, 0⟩
  else if k = 2 then ⟨2, numN ((l.drop 1).take 8), 0, (l.getD 9 0).toNat, (l.getD 10 0).toNat, 0, 0, 0, 0⟩
  else ⟨3, 0, 0, 0, 0, numN ((l.drop 1).take 8), numN ((l.drop 9).take 8), numN ((l.drop 17).take 8), (l.getD 25 0).toNat⟩
def takeR (l : List UInt8) : Rec × Int :=
  if l = [] then (Rec.zero, 10)
  else if (l.getD 0 0).toNat < 1 ∨ 3 < (l.getD 0 0).toNat then (Rec.zero, 4)
  else if l.length < longR (l.getD 0 0).toNat then (Rec.zero, 10)
  else if longR (l.getD 0 0).toNat < l.length then (Rec.zero, 4)
  else if (recR (l.getD 0 0).toNat l).right = true then (recR (l.getD 0 0).toNat l, 0) else (Rec.zero, 4)
theorem g_one (l : List UInt8) (k : Nat) (h : k < l.length) : g 1 (some (l.drop k)) = (((l.getD k 0).toNat : Int), some (l.drop (k + 1))) := by
  rw [g_yes 1 _ (by rw [List.length_drop]; omega), List.drop_drop, List.drop_eq_getElem_cons h, List.take_succ_cons, List.take_zero]
  simp [numN, List.getD_eq_getElem?_getD, List.getElem?_eq_getElem h]
theorem g_eight (l : List UInt8) (k : Nat) (h : k + 8 ≤ l.length) : g 8 (some (l.drop k)) = (((numN ((l.drop k).take 8) : Nat) : Int), some (l.drop (k + 8))) := by
  rw [g_yes 8 _ (by rw [List.length_drop]; omega), List.drop_drop]
theorem g_short (l : List UInt8) (k m : Nat) (h : l.length < k + m) (hm : 0 < m) : (g m (some (l.drop k))).2 = none := by
  rw [g_no m _ (by rw [List.length_drop]; omega)]
theorem g_none (m : Nat) : g m none = (0, none) := rfl
theorem take_ref (l : List UInt8) : takeG l = takeR l := by
  unfold takeG takeR
  by_cases h0 : l = []
  · rw [if_pos h0, if_pos h0]
  rw [if_neg h0, if_neg h0]
  have hl : 0 < l.length := by cases l; exact absurd rfl h0; simp
  have h1 := g_one l 0 hl
  rw [List.drop_zero] at h1
  rw [h1]
  simp only
  generalize (l.getD 0 0).toNat = k
  by_cases hk : k < 1 ∨ 3 < k
  · rw [if_neg (by omega), if_pos hk]
  rw [if_pos (by omega), if_neg hk]
  have hnil : ∀ m : Nat, m ≤ l.length → ((st (some (l.drop m))).1 = bs [] ↔ m = l.length) := by
    intro m hm
    constructor
    · intro h
      have := congrArg ByteArray.size h
      simp only [st, bs_size, List.length_drop, List.length_nil] at this
      omega
    · rintro rfl
      simp [st, List.drop_length]
  have main : ∀ (m : Nat) (R : Rec) (X : Rec × Option (List UInt8)), (l.length < m → X.2 = none) → (m ≤ l.length → X = (R, some (l.drop m))) →
      (if (st X.2).2 = 0 then (if (st X.2).1 = bs [] ∧ X.1.right = true then (X.1, (0 : Int)) else (Rec.zero, 4)) else (Rec.zero, (st X.2).2)) =
      (if l.length < m then (Rec.zero, 10) else if m < l.length then (Rec.zero, 4) else if R.right = true then (R, 0) else (Rec.zero, 4)) := by
    intro m R X hs hg
    by_cases hm : l.length < m
    · rw [hs hm, if_pos hm, if_neg (by simp [st])]; rfl
    · rw [hg (by omega), if_neg hm, if_pos (by rfl)]
      by_cases hm2 : m < l.length
      · rw [if_pos hm2, if_neg (fun h => by have := (hnil m (by omega)).1 h.1; omega)]
      · rw [if_neg hm2]
        by_cases hr : R.right = true
        · rw [if_pos hr, if_pos ⟨(hnil m (by omega)).2 (by omega), hr⟩]
        · rw [if_neg hr, if_neg (fun h => hr h.2)]
  have hkk : k = 1 ∨ k = 2 ∨ k = 3 := by omega
  rcases hkk with rfl | rfl | rfl
  · refine main 10 (recR 1 l) _ (fun h => ?_) (fun h => ?_)
    · unfold fieldsG
      rw [if_pos (by rfl)]
      by_cases h9 : l.length < 9
      · simp only [g_short l 1 8 (by omega) (by omega), g_none]
      · simp only [g_eight l 1 (by omega), g_short l 9 1 (by omega) (by omega)]
    · unfold fieldsG
      rw [if_pos (by rfl)]
      simp only [g_eight l 1 (by omega), g_one l 9 (by omega)]
      rfl
  · refine main 11 (recR 2 l) _ (fun h => ?_) (fun h => ?_)
    · unfold fieldsG
      rw [if_neg (by decide), if_pos (by rfl)]
      by_cases h9 : l.length < 9
      · simp only [g_short l 1 8 (by omega) (by omega), g_none]
      · by_cases h10 : l.length < 10
        · simp only [g_eight l 1 (by omega), g_short l 9 1 (by omega) (by omega), g_none]
        · simp only [g_eight l 1 (by omega), g_one l 9 (by omega), g_short l 10 1 (by omega) (by omega)]
    · unfold fieldsG
      rw [if_neg (by decide), if_pos (by rfl)]
      simp only [g_eight l 1 (by omega), g_one l 9 (by omega), g_one l 10 (by omega)]
      rfl
  · refine main 26 (recR 3 l) _ (fun h => ?_) (fun h => ?_)
    · unfold fieldsG
      rw [if_neg (by decide), if_neg (by decide)]
      by_cases h9 : l.length < 9
      · simp only [g_short l 1 8 (by omega) (by omega), g_none]
      · by_cases h17 : l.length < 17
        · simp only [g_eight l 1 (by omega), g_short l 9 8 (by omega) (by omega), g_none]
        · by_cases h25 : l.length < 25
          · simp only [g_eight l 1 (by omega), g_eight l 9 (by omega), g_short l 17 8 (by omega) (by omega), g_none]
          · simp only [g_eight l 1 (by omega), g_eight l 9 (by omega), g_eight l 17 (by omega), g_short l 25 1 (by omega) (by omega)]
    · unfold fieldsG
      rw [if_neg (by decide), if_neg (by decide)]
      simp only [g_eight l 1 (by omega), g_eight l 9 (by omega), g_eight l 17 (by omega), g_one l 25 (by omega)]
      rfl
end Go.Proofs.YtnhjhaphfdlkfaaDoor.Sg
/- The document: Take. -/
set_option linter.unusedVariables false
set_option linter.unusedSimpArgs false
namespace Go.Proofs.YtnhjhaphfdlkfaaDoor.Sg
open Go.RowKit Go.Proofs.YtnhjhaphfdlkfaaDoor.HF Go.Proofs.YtnhjhaphfdlkfaaDoor.SB Go.Proofs.YtnhjhaphfdlkfaaDoorW.PrintWords Go.Proofs.YtnhjhaphfdlkfaaDoorW.PrintLast Go.Proofs.YtnhjhaphfdlkfaaDoorW.PrintMore
theorem rtake_res {tmps : Array Value} {w : World} (b : Nat) (R : Rec) (h2 : tmps.getD 2 undef = .pointer (some ⟨b, 0, none⟩)) (hb : w.heap[b]? = some (.cells R.cells 55 (0, 0))) : (results Tryd.f53 tmps).run Tryd.prog w = .ok (.tuple #[R.val, tmps.getD 3 undef]) w :=
  results_list (rs := [.cell 2 55, .tmp 3]) Tryd.results53 (by simp) (.cell b 55 R.cells (0, 0) _ h2 hb Tryd.underlying55 rfl info55 (.tmp .nil))
set_option maxHeartbeats 2000000 in
set_option maxRecDepth 100000 in
theorem rtake_calls (l : List UInt8) (hl : l.length ≤ 100000) (w : World) : Calls Tryd.prog 53 #[.string (bs l)] w fun e w' => e = .returned (.tuple #[(takeG l).1.val, .int .i64 (takeG l).2]) ∧ Below w.heap.size w w' := by
  rw [take_ref]
  by_cases h0 : l = []
  · have h0b : (bs l).toList.isEmpty = true := by rw [bs_toList, h0]; rfl
    have HT := Lib.hid (show takeR l = (Rec.zero, 10) from if_pos h0)
    clear h0
    go_enter Tryd.func53, Tryd.ntmps53
    go_wp2_with fail
    rw [HT.out]
    exact bodyPost_ret (v := .tuple #[Rec.zero.val, .int .i64 10]) (by simp [results, Tryd.results53, go_sem, Rec.zero, Rec.val, Rec.cells]) rfl ⟨rfl, (Below.refl _ _).alloc (Nat.le_refl _) _⟩
  · have h0b : (bs l).toList.isEmpty = false := by rw [bs_toList]; cases l; exact absurd rfl h0; rfl
    have hl0 : 0 < l.length := by cases l; exact absurd rfl h0; simp
    have hb0 : 0 < (bs l).size := by rw [bs_size]; exact hl0
    have hk : ((bs l)[0]'hb0).toNat = (l.getD 0 0).toNat := by rw [bs_at]; simp [List.getD_eq_getElem?_getD, List.getElem?_eq_getElem hl0]
    have HT := Lib.hid (show takeR l = _ from if_neg h0)
    have hk256 : (l.getD 0 0).toNat < 256 := (l.getD 0 0).toNat_lt
    clear h0
    generalize (l.getD 0 0).toNat = k at *
    by_cases hkr : k < 1 ∨ 3 < k
    · have HT2 := HT.out
      rw [if_pos hkr] at HT2
      have HTK := Lib.hid HT2
      clear HT HT2
      have hw : IntKind.i64.wrap (k : Int) = k := IntWalk.i64_in _ ⟨by omega, by omega⟩
      by_cases h1 : k < 1
      · have d1 : decide ((k : Int) < 1) = true := decide_eq_true (by omega)
        clear hkr
        go_enter Tryd.func53, Tryd.ntmps53
        go_wp2_with fail
        rw [HTK.out]
        exact bodyPost_ret (v := .tuple #[Rec.zero.val, .int .i64 4]) (by simp [results, Tryd.results53, go_sem, Rec.zero, Rec.val, Rec.cells]) rfl ⟨rfl, (Below.refl _ _).alloc (Nat.le_refl _) _⟩
      · have d1 : decide ((k : Int) < 1) = false := decide_eq_false (by omega)
        have d3 : decide (3 < (k : Int)) = true := decide_eq_true (by omega)
        clear hkr
        go_enter Tryd.func53, Tryd.ntmps53
        go_wp2_with fail
        rw [HTK.out]
        exact bodyPost_ret (v := .tuple #[Rec.zero.val, .int .i64 4]) (by simp [results, Tryd.results53, go_sem, Rec.zero, Rec.val, Rec.cells]) rfl ⟨rfl, (Below.refl _ _).alloc (Nat.le_refl _) _⟩
    · have hw : IntKind.i64.wrap (k : Int) = k := IntWalk.i64_in _ ⟨by omega, by omega⟩
      have d1 : decide ((k : Int) < 1) = false := decide_eq_false (by omega)
      have d3 : decide (3 < (k : Int)) = false := decide_eq_false (by omega)
      have hk3 : k = 1 ∨ k = 2 ∨ k = 3 := by omega
      have hls : ((bs l).size : Int) = l.length := by rw [bs_size]
      have HT2 := HT.out
      rw [if_neg hkr] at HT2
      have HTK := Lib.hid HT2
      have HL := Lib.hid (fun W => long_calls k hk3 W)
      clear HT HT2 hkr
      go_enter Tryd.func53, Tryd.ntmps53
      go_wp2_with fail
      refine (HL.out _).mono ?_
      rintro e w1 ⟨rfl, hB1⟩
      have HZ1 := Lib.hid (show w1.heap[w.heap.size]? = some (.cells Rec.zero.cells 55 (0, 0)) from (hB1.block _ (by simp)).trans (heap_alloc_new w _))
      have HB1 := Lib.hid (((Below.refl w.heap.size w).alloc (Nat.le_refl _) _).trans (hB1.mono (by simp)))
      clear hB1
      by_cases hs : l.length < longR k
      · have ds : decide (l.length < longR k) = true := decide_eq_true (by omega)
        have HT2 := HTK.out
        rw [if_pos hs] at HT2
        clear HTK
        have HTK := Lib.hid HT2
        clear HT2 hs
        go_wp2_with (first | ((with_reducible refine gate_store (t := 55) (p := 2) rfl ?_); refine store_rec rfl 55 (.tmp 2) (.tmp 24) rfl info55 w.heap.size 55 Rec.zero Rec.zero rfl rfl HZ1.out ?_; intro w7 hz7 hk7 hb7; have HZ7 := Lib.hid hz7; have HB7 := Lib.hid (hb7 w.heap.size w (Nat.le_refl _) HB1.out); clear hz7 hk7 hb7))
        rw [HTK.out]
        exact bodyPost_ret (v := .tuple #[Rec.zero.val, .int .i64 10]) (rtake_res w.heap.size Rec.zero rfl HZ7.out) rfl ⟨rfl, HB7.out⟩
      · have ds : decide (l.length < longR k) = false := decide_eq_false (by omega)
        have HT2 := HTK.out
        rw [if_neg hs] at HT2
        clear HTK
        have HTK := Lib.hid HT2
        clear HT2
        go_wp2_with fail
        refine (HL.out _).mono ?_
        rintro e w2 ⟨rfl, hB2⟩
        have HZ2 := Lib.hid ((hB2.block _ (blk_lt HZ1.out)).trans HZ1.out)
        have HB2 := Lib.hid (HB1.out.trans (hB2.mono HB1.out.size))
        clear hB2
        by_cases hg : longR k < l.length
        · have dg : decide (longR k < l.length) = true := decide_eq_true (by omega)
          have HT2 := HTK.out
          rw [if_pos hg] at HT2
          clear HTK
          have HTK := Lib.hid HT2
          clear HT2 hs hg
          go_wp2_with (first | ((with_reducible refine gate_store (t := 55) (p := 2) rfl ?_); refine store_rec rfl 55 (.tmp 2) (.tmp 30) rfl info55 w.heap.size 55 Rec.zero Rec.zero rfl rfl HZ2.out ?_; intro w7 hz7 hk7 hb7; have HZ7 := Lib.hid hz7; have HB7 := Lib.hid (hb7 w.heap.size w (Nat.le_refl _) HB2.out); clear hz7 hk7 hb7))
          rw [HTK.out]
          exact bodyPost_ret (v := .tuple #[Rec.zero.val, .int .i64 4]) (rtake_res w.heap.size Rec.zero rfl HZ7.out) rfl ⟨rfl, HB7.out⟩
        · have dg : decide (longR k < l.length) = false := decide_eq_false (by omega)
          have HT2 := HTK.out
          rw [if_neg hg] at HT2
          clear HTK
          have HTK := Lib.hid HT2
          clear HT2
          have hlk : l.length = longR k := by omega
          rcases hk3 with rfl | rfl | rfl
          · have hlen : l.length = 10 := hlk
            have HN1 := Lib.hid (fun W => number_calls l 1 (by omega) hl W)
            have hb9' : 9 < (bs l).size := by rw [bs_size]; omega
            have hk9 : ((bs l)[9]'hb9').toNat = (l.getD 9 0).toNat := by rw [bs_at]; simp [List.getD_eq_getElem?_getD, List.getElem?_eq_getElem (show 9 < l.length by omega)]
            have HRec := Lib.hid (show recR 1 l = ⟨1, (numN ((l.drop 1).take 8) : Nat), ((l.getD 9 0).toNat : Nat), 0, 0, 0, 0, 0, 0⟩ from rfl)
            generalize numN ((l.drop 1).take 8) = N1 at HN1 HRec
            generalize (l.getD 9 0).toNat = B9 at hk9 HRec
            go_wp2_with fail
            refine (HN1.out _).mono ?_
            rintro e w3 ⟨rfl, rfl⟩
            go_wp2_with fail
            refine (may1_calls N1 B9 _).mono ?_
            rintro e w4 ⟨rfl, hB4⟩
            have HZ4 := Lib.hid ((hB4.block w.heap.size (by have := blk_lt HZ2.out; simp; omega)).trans (blk_alloc HZ2.out (.cells ((⟨1, (N1 : Nat), (B9 : Nat), 0, 0, 0, 0, 0, 0⟩) : Rec).cells 55)))
            have HBk4 := Lib.hid ((hB4.block w2.heap.size (by simp)).trans (heap_alloc_new w2 (.cells ((⟨1, (N1 : Nat), (B9 : Nat), 0, 0, 0, 0, 0, 0⟩) : Rec).cells 55)))
            have HB4 := Lib.hid ((HB2.out.alloc HB2.out.size (.cells ((⟨1, (N1 : Nat), (B9 : Nat), 0, 0, 0, 0, 0, 0⟩) : Rec).cells 55)).trans (hB4.mono (by have := HB2.out.size; simp; omega)))
            clear hB4
            have HT2 := HTK.out
            rw [HRec.out] at HT2
            clear HTK
            by_cases hq9 : ((B9 : Int) < 64)
            · have dhq9 : decide ((B9 : Int) < 64) = true := decide_eq_true hq9
              rw [if_pos (by simp [Rec.right, hq9])] at HT2
              have HTK := Lib.hid HT2
              clear HT2
              go_wp2_with (first | ((with_reducible refine gate_load (t := 55) (p := 5) rfl ?_); refine gate_guard (by rfl) ?_; refine load_rec rfl 55 (.tmp 5) rfl _ Tryd.underlying55 rfl info55 w2.heap.size 55 (⟨1, (N1 : Nat), (B9 : Nat), 0, 0, 0, 0, 0, 0⟩) rfl HBk4.out ?_) | ((with_reducible refine gate_store (t := 55) (p := 2) rfl ?_); refine store_rec rfl 55 (.tmp 2) (.tmp 69) rfl info55 w.heap.size 55 (⟨1, (N1 : Nat), (B9 : Nat), 0, 0, 0, 0, 0, 0⟩) Rec.zero rfl rfl HZ4.out ?_; intro w7 hz7 hk7 hb7; have HZ7 := Lib.hid hz7; have HB7 := Lib.hid (hb7 w.heap.size w (Nat.le_refl _) HB4.out); clear hz7 hk7 hb7))
              rw [HTK.out]
              exact bodyPost_ret (v := .tuple #[((⟨1, (N1 : Nat), (B9 : Nat), 0, 0, 0, 0, 0, 0⟩) : Rec).val, .int .i64 0]) (rtake_res w.heap.size (⟨1, (N1 : Nat), (B9 : Nat), 0, 0, 0, 0, 0, 0⟩) rfl HZ7.out) rfl ⟨rfl, HB7.out⟩
            · have dhq9 : decide ((B9 : Int) < 64) = false := decide_eq_false hq9
              rw [if_neg (by simp [Rec.right, hq9])] at HT2
              have HTK := Lib.hid HT2
              clear HT2
              go_wp2_with (first | ((with_reducible refine gate_store (t := 55) (p := 2) rfl ?_); refine store_rec rfl 55 (.tmp 2) (.tmp 68) rfl info55 w.heap.size 55 Rec.zero Rec.zero rfl rfl HZ4.out ?_; intro w7 hz7 hk7 hb7; have HZ7 := Lib.hid hz7; have HB7 := Lib.hid (hb7 w.heap.size w (Nat.le_refl _) HB4.out); clear hz7 hk7 hb7))
              rw [HTK.out]
              exact bodyPost_ret (v := .tuple #[Rec.zero.val, .int .i64 4]) (rtake_res w.heap.size Rec.zero rfl HZ7.out) rfl ⟨rfl, HB7.out⟩
          · have hlen : l.length = 11 := hlk
            have HN1 := Lib.hid (fun W => number_calls l 1 (by omega) hl W)
            have hb9' : 9 < (bs l).size := by rw [bs_size]; omega
            have hk9 : ((bs l)[9]'hb9').toNat = (l.getD 9 0).toNat := by rw [bs_at]; simp [List.getD_eq_getElem?_getD, List.getElem?_eq_getElem (show 9 < l.length by omega)]
            have hb10' : 10 < (bs l).size := by rw [bs_size]; omega
            have hk10 : ((bs l)[10]'hb10').toNat = (l.getD 10 0).toNat := by rw [bs_at]; simp [List.getD_eq_getElem?_getD, List.getElem?_eq_getElem (show 10 < l.length by omega)]
            have HRec := Lib.hid (show recR 2 l = ⟨2, (numN ((l.drop 1).take 8) : Nat), 0, ((l.getD 9 0).toNat : Nat), ((l.getD 10 0).toNat : Nat), 0, 0, 0, 0⟩ from rfl)
            generalize numN ((l.drop 1).take 8) = N1 at HN1 HRec
            generalize (l.getD 9 0).toNat = B9 at hk9 HRec
            generalize (l.getD 10 0).toNat = B10 at hk10 HRec
            go_wp2_with fail
            refine (HN1.out _).mono ?_
            rintro e w3 ⟨rfl, rfl⟩
            go_wp2_with fail
            go_region
            go_wp2_with fail
            refine (may2_calls N1 B9 B10 _).mono ?_
            rintro e w4 ⟨rfl, hB4⟩
            have HZ4 := Lib.hid ((hB4.block w.heap.size (by have := blk_lt HZ2.out; simp; omega)).trans (blk_alloc HZ2.out (.cells ((⟨2, (N1 : Nat), 0, (B9 : Nat), (B10 : Nat), 0, 0, 0, 0⟩) : Rec).cells 55)))
            have HBk4 := Lib.hid ((hB4.block w2.heap.size (by simp)).trans (heap_alloc_new w2 (.cells ((⟨2, (N1 : Nat), 0, (B9 : Nat), (B10 : Nat), 0, 0, 0, 0⟩) : Rec).cells 55)))
            have HB4 := Lib.hid ((pw_below_drewN (HB2.out.alloc HB2.out.size (.cells ((⟨2, (N1 : Nat), 0, (B9 : Nat), (B10 : Nat), 0, 0, 0, 0⟩) : Rec).cells 55)) 1).trans (hB4.mono (by have := HB2.out.size; simp; omega)))
            clear hB4
            have HT2 := HTK.out
            rw [HRec.out] at HT2
            clear HTK
            by_cases hq9 : ((B9 : Int) < 64)
            · have dhq9 : decide ((B9 : Int) < 64) = true := decide_eq_true hq9
              by_cases hq10 : ((B10 : Int) < 64)
              · have dhq10 : decide ((B10 : Int) < 64) = true := decide_eq_true hq10
                rw [if_pos (by simp [Rec.right, hq9, hq10])] at HT2
                have HTK := Lib.hid HT2
                clear HT2
                go_wp2_with (first | ((with_reducible refine gate_load (t := 55) (p := 5) rfl ?_); refine gate_guard (by rfl) ?_; refine load_rec rfl 55 (.tmp 5) rfl _ Tryd.underlying55 rfl info55 w2.heap.size 55 (⟨2, (N1 : Nat), 0, (B9 : Nat), (B10 : Nat), 0, 0, 0, 0⟩) rfl HBk4.out ?_) | ((with_reducible refine gate_store (t := 55) (p := 2) rfl ?_); refine store_rec rfl 55 (.tmp 2) (.tmp 69) rfl info55 w.heap.size 55 (⟨2, (N1 : Nat), 0, (B9 : Nat), (B10 : Nat), 0, 0, 0, 0⟩) Rec.zero rfl rfl HZ4.out ?_; intro w7 hz7 hk7 hb7; have HZ7 := Lib.hid hz7; have HB7 := Lib.hid (hb7 w.heap.size w (Nat.le_refl _) HB4.out); clear hz7 hk7 hb7))
                rw [HTK.out]
                exact bodyPost_ret (v := .tuple #[((⟨2, (N1 : Nat), 0, (B9 : Nat), (B10 : Nat), 0, 0, 0, 0⟩) : Rec).val, .int .i64 0]) (rtake_res w.heap.size (⟨2, (N1 : Nat), 0, (B9 : Nat), (B10 : Nat), 0, 0, 0, 0⟩) rfl HZ7.out) rfl ⟨rfl, HB7.out⟩
              · have dhq10 : decide ((B10 : Int) < 64) = false := decide_eq_false hq10
                rw [if_neg (by simp [Rec.right, hq9, hq10])] at HT2
                have HTK := Lib.hid HT2
                clear HT2
                go_wp2_with (first | ((with_reducible refine gate_store (t := 55) (p := 2) rfl ?_); refine store_rec rfl 55 (.tmp 2) (.tmp 68) rfl info55 w.heap.size 55 Rec.zero Rec.zero rfl rfl HZ4.out ?_; intro w7 hz7 hk7 hb7; have HZ7 := Lib.hid hz7; have HB7 := Lib.hid (hb7 w.heap.size w (Nat.le_refl _) HB4.out); clear hz7 hk7 hb7))
                rw [HTK.out]
                exact bodyPost_ret (v := .tuple #[Rec.zero.val, .int .i64 4]) (rtake_res w.heap.size Rec.zero rfl HZ7.out) rfl ⟨rfl, HB7.out⟩
            · have dhq9 : decide ((B9 : Int) < 64) = false := decide_eq_false hq9
              rw [if_neg (by simp [Rec.right, hq9])] at HT2
              have HTK := Lib.hid HT2
              clear HT2
              go_wp2_with (first | ((with_reducible refine gate_store (t := 55) (p := 2) rfl ?_); refine store_rec rfl 55 (.tmp 2) (.tmp 68) rfl info55 w.heap.size 55 Rec.zero Rec.zero rfl rfl HZ4.out ?_; intro w7 hz7 hk7 hb7; have HZ7 := Lib.hid hz7; have HB7 := Lib.hid (hb7 w.heap.size w (Nat.le_refl _) HB4.out); clear hz7 hk7 hb7))
              rw [HTK.out]
              exact bodyPost_ret (v := .tuple #[Rec.zero.val, .int .i64 4]) (rtake_res w.heap.size Rec.zero rfl HZ7.out) rfl ⟨rfl, HB7.out⟩
          · have hlen : l.length = 26 := hlk
            have HN1 := Lib.hid (fun W => number_calls l 1 (by omega) hl W)
            have HN9 := Lib.hid (fun W => number_calls l 9 (by omega) hl W)
            have HN17 := Lib.hid (fun W => number_calls l 17 (by omega) hl W)
            have hb25' : 25 < (bs l).size := by rw [bs_size]; omega
            have hk25 : ((bs l)[25]'hb25').toNat = (l.getD 25 0).toNat := by rw [bs_at]; simp [List.getD_eq_getElem?_getD, List.getElem?_eq_getElem (show 25 < l.length by omega)]
            have HRec := Lib.hid (show recR 3 l = ⟨3, 0, 0, 0, 0, (numN ((l.drop 1).take 8) : Nat), (numN ((l.drop 9).take 8) : Nat), (numN ((l.drop 17).take 8) : Nat), ((l.getD 25 0).toNat : Nat)⟩ from rfl)
            generalize numN ((l.drop 1).take 8) = N1 at HN1 HRec
            generalize numN ((l.drop 9).take 8) = N9 at HN9 HRec
            generalize numN ((l.drop 17).take 8) = N17 at HN17 HRec
            generalize (l.getD 25 0).toNat = B25 at hk25 HRec
            go_wp2_with fail
            refine (HN1.out _).mono ?_
            rintro e w3 ⟨rfl, rfl⟩
            go_wp2_with fail
            refine (HN9.out _).mono ?_
            rintro e w3 ⟨rfl, rfl⟩
            go_wp2_with fail
            refine (HN17.out _).mono ?_
            rintro e w3 ⟨rfl, rfl⟩
            go_wp2_with fail
            refine (may3_calls N1 N9 N17 B25 _).mono ?_
            rintro e w4 ⟨rfl, hB4⟩
            have HZ4 := Lib.hid ((hB4.block w.heap.size (by have := blk_lt HZ2.out; simp; omega)).trans (blk_alloc HZ2.out (.cells ((⟨3, 0, 0, 0, 0, (N1 : Nat), (N9 : Nat), (N17 : Nat), (B25 : Nat)⟩) : Rec).cells 55)))
            have HBk4 := Lib.hid ((hB4.block w2.heap.size (by simp)).trans (heap_alloc_new w2 (.cells ((⟨3, 0, 0, 0, 0, (N1 : Nat), (N9 : Nat), (N17 : Nat), (B25 : Nat)⟩) : Rec).cells 55)))
            have HB4 := Lib.hid ((HB2.out.alloc HB2.out.size (.cells ((⟨3, 0, 0, 0, 0, (N1 : Nat), (N9 : Nat), (N17 : Nat), (B25 : Nat)⟩) : Rec).cells 55)).trans (hB4.mono (by have := HB2.out.size; simp; omega)))
            clear hB4
            have HT2 := HTK.out
            rw [HRec.out] at HT2
            clear HTK
            by_cases hq25 : ((B25 : Int) ≤ 1)
            · have dhq25 : decide ((B25 : Int) ≤ 1) = true := decide_eq_true hq25
              rw [if_pos (by simp [Rec.right, hq25])] at HT2
              have HTK := Lib.hid HT2
              clear HT2
              go_wp2_with (first | ((with_reducible refine gate_load (t := 55) (p := 5) rfl ?_); refine gate_guard (by rfl) ?_; refine load_rec rfl 55 (.tmp 5) rfl _ Tryd.underlying55 rfl info55 w2.heap.size 55 (⟨3, 0, 0, 0, 0, (N1 : Nat), (N9 : Nat), (N17 : Nat), (B25 : Nat)⟩) rfl HBk4.out ?_) | ((with_reducible refine gate_store (t := 55) (p := 2) rfl ?_); refine store_rec rfl 55 (.tmp 2) (.tmp 69) rfl info55 w.heap.size 55 (⟨3, 0, 0, 0, 0, (N1 : Nat), (N9 : Nat), (N17 : Nat), (B25 : Nat)⟩) Rec.zero rfl rfl HZ4.out ?_; intro w7 hz7 hk7 hb7; have HZ7 := Lib.hid hz7; have HB7 := Lib.hid (hb7 w.heap.size w (Nat.le_refl _) HB4.out); clear hz7 hk7 hb7))
              rw [HTK.out]
              exact bodyPost_ret (v := .tuple #[((⟨3, 0, 0, 0, 0, (N1 : Nat), (N9 : Nat), (N17 : Nat), (B25 : Nat)⟩) : Rec).val, .int .i64 0]) (rtake_res w.heap.size (⟨3, 0, 0, 0, 0, (N1 : Nat), (N9 : Nat), (N17 : Nat), (B25 : Nat)⟩) rfl HZ7.out) rfl ⟨rfl, HB7.out⟩
            · have dhq25 : decide ((B25 : Int) ≤ 1) = false := decide_eq_false hq25
              rw [if_neg (by simp [Rec.right, hq25])] at HT2
              have HTK := Lib.hid HT2
              clear HT2
              go_wp2_with (first | ((with_reducible refine gate_store (t := 55) (p := 2) rfl ?_); refine store_rec rfl 55 (.tmp 2) (.tmp 68) rfl info55 w.heap.size 55 Rec.zero Rec.zero rfl rfl HZ4.out ?_; intro w7 hz7 hk7 hb7; have HZ7 := Lib.hid hz7; have HB7 := Lib.hid (hb7 w.heap.size w (Nat.le_refl _) HB4.out); clear hz7 hk7 hb7))
              rw [HTK.out]
              exact bodyPost_ret (v := .tuple #[Rec.zero.val, .int .i64 4]) (rtake_res w.heap.size Rec.zero rfl HZ7.out) rfl ⟨rfl, HB7.out⟩
end Go.Proofs.YtnhjhaphfdlkfaaDoor.Sg
/- The document's Said: what lies where; input. -/
set_option linter.unusedVariables false
set_option linter.unusedSimpArgs false
namespace Go.Proofs.YtnhjhaphfdlkfaaDoor.Sg
open Go.RowKit Go.Proofs.YtnhjhaphfdlkfaaDoor.HF Go.Proofs.YtnhjhaphfdlkfaaDoor.SB Go.Proofs.YtnhjhaphfdlkfaaDoorW.PrintWords Go.Proofs.YtnhjhaphfdlkfaaDoorW.PrintLast Go.Proofs.YtnhjhaphfdlkfaaDoorW.PrintMore
def rsCells (x : Sc) (vl : Value) : Array Value :=
  #[.int .i64 x.head.kind, .int .u64 x.head.frame, .int .u8 x.head.own, .int .u8 x.head.p0, .int .u8 x.head.p1, .int .u64 x.head.seg, .int .u64 x.head.first, .int .u64 x.head.epoch, .int .u8 x.head.player, .bool x.begun, vl, .int .u64 x.count, .int .u64 (x.count + x.owned.length)]
def IsRs (w : World) (base g : Nat) (x : Sc) (F : Nat → Prop) : Prop :=
  ∃ vl, w.heap[g]? = some (.cells (rsCells x vl) 109 (0, 0)) ∧ QRow w base 55 9 vl x.l.length (flatR x.l) ∧ F g ∧ (∀ k, vl.ownBlock = some k → F k) ∧ (∀ k, F k → base ≤ k ∧ k < w.heap.size)
def DidRs (w w' : World) (base g : Nat) (x : Sc) (F : Nat → Prop) : Prop :=
  ∃ F', IsRs w' base g x F' ∧ (∀ k, F' k → F k ∨ w.heap.size ≤ k) ∧ Kept w w' F ∧ Below base w w'
/-- The last own of a frame. -/
def inputN (fr : Int) : List Rec → Int → Int
  | [], a => a
  | r :: l, a => inputN fr l (if r.kind = 1 ∧ r.frame = fr then r.own else a)
theorem inputN_snoc (fr : Int) (l : List Rec) (r : Rec) : ∀ a, inputN fr (l ++ [r]) a = if r.kind = 1 ∧ r.frame = fr then r.own else inputN fr l a := by
  induction l with
  | nil => intro a; rfl
  | cons q l ih => intro a; exact ih _
theorem inputN_take (fr : Int) (l : List Rec) (k : Nat) (h : k < l.length) : inputN fr (l.take (k + 1)) 0 = if (l[k]).kind = 1 ∧ (l[k]).frame = fr then (l[k]).own else inputN fr (l.take k) 0 := by
  rw [List.take_succ_eq_append_getElem h, inputN_snoc]
set_option maxHeartbeats 1000000 in
set_option maxRecDepth 100000 in
theorem input_calls (w : World) (base g : Nat) (x : Sc) (F : Nat → Prop) (h : IsRs w base g x F) (hll : x.l.length ≤ 100000) (fr : Int) :
    Calls Tryd.prog 78 #[.pointer (some ⟨g, 0, none⟩), .int .u64 fr] w fun e w' => e = .returned (.int .u8 (inputN fr x.l 0)) ∧ w' = w := by
  obtain ⟨vl, h1, h2, h3, h4, h5⟩ := h
  obtain ⟨Al, cl, rfl, hlc⟩ := q_slice h2
  have c10 : w.cell? ⟨g, 10, none⟩ = some (.slice Al x.l.length cl) := blk_cell h1 10
  have H2 := Lib.hid h2
  clear h1 h2 h3 h4 h5
  go_enter Tryd.func78, Tryd.ntmps78
  go_wp2_with fail
  go_loopw [5, 6] (fun t5 t6 wr => ∃ k : Nat, k ≤ x.l.length ∧ t6 = .int .i64 k ∧ t5 = .int .u8 (inputN fr (x.l.take k) 0) ∧ wr = w) (fun _ t6 _ => x.l.length - (intOf t6).toNat)
  case atStart => exact ⟨0, by omega, rfl, rfl, rfl⟩
  case round =>
    obtain ⟨k, hk, rfl, rfl, rfl⟩ := hrel
    by_cases hlt : k < x.l.length
    · have hltb : decide ((k : Int) < (x.l.length : Int)) = true := decide_eq_true (by omega)
      have hk0 : 0 ≤ (k : Int) := by omega
      obtain ⟨⟨bo, fo, po⟩, rfl, hco⟩ := q_cells H2.out (by omega)
      have r0 : wr.cell? ((⟨bo, fo, po⟩ : Addr).add (k * 9)) = some (.int .i64 (x.l[k]).kind) := hco _ _ (flatR_at x.l k hlt 0 (by omega))
      have r1 : wr.cell? ⟨((⟨bo, fo, po⟩ : Addr).add (k * 9)).block, ((⟨bo, fo, po⟩ : Addr).add (k * 9)).off + 1, none⟩ = some (.int .u64 (x.l[k]).frame) := (show wr.cell? (((⟨bo, fo, po⟩ : Addr).add (k * 9)).add 1) = _ by rw [Addr.add_add]; exact hco _ _ (flatR_at x.l k hlt 1 (by omega)))
      have r2 : wr.cell? ⟨((⟨bo, fo, po⟩ : Addr).add (k * 9)).block, ((⟨bo, fo, po⟩ : Addr).add (k * 9)).off + 2, none⟩ = some (.int .u8 (x.l[k]).own) := (show wr.cell? (((⟨bo, fo, po⟩ : Addr).add (k * 9)).add 2) = _ by rw [Addr.add_add]; exact hco _ _ (flatR_at x.l k hlt 2 (by omega)))
      have hin := inputN_take fr x.l k hlt
      clear hco
      generalize x.l[k] = r at *
      by_cases hr : r.kind = 1
      · have d1 : (r.kind == 1) = true := by simp [hr]
        by_cases hf : r.frame = fr
        · have d2 : (r.frame == fr) = true := by simp [hf]
          rw [if_pos ⟨hr, hf⟩] at hin
          clear hr hf
          go_wp2
          exact ⟨⟨k + 1, by omega, by go_num, by rw [hin], trivial⟩, by simp [intOf]; omega⟩
        · have d2 : (r.frame == fr) = false := by simp [hf]
          rw [if_neg (fun h => hf h.2)] at hin
          clear hr hf
          go_wp2
          exact ⟨⟨k + 1, by omega, by go_num, by rw [hin], trivial⟩, by simp [intOf]; omega⟩
      · have d1 : (r.kind == 1) = false := by simp [hr]
        rw [if_neg (fun h => hr h.1)] at hin
        clear hr
        go_wp2
        exact ⟨⟨k + 1, by omega, by go_num, by rw [hin], trivial⟩, by simp [intOf]; omega⟩
    · have hltb : decide ((k : Int) < (x.l.length : Int)) = false := decide_eq_false (by omega)
      have hkl : k = x.l.length := by omega
      subst hkl
      go_wp2
      go_ret
      exact ⟨by simp only [List.take_length]; rfl, rfl⟩
end Go.Proofs.YtnhjhaphfdlkfaaDoor.Sg
/- The document's Said: what its input answers. -/
set_option linter.unusedVariables false
set_option linter.unusedSimpArgs false
namespace Go.Proofs.YtnhjhaphfdlkfaaDoor.Sg
open Go.RowKit
/-- The inputs owned are those that the records say. -/
def Sc.Tells (x : Sc) : Prop := ∀ (i : Nat) (o : Int), x.owned[i]? = some o → inputN (x.count + i) x.l 0 = o
theorem tells_start : Sc.start.Tells := fun i o h => by simp [Sc.start] at h
theorem tells_step {x : Sc} (hx : x.Tells) (hg : x.Good) {r : Rec} (hr : r.may) (n : Int) : (stakeS n x r).1.Tells := by
  unfold stakeS
  by_cases h3 : r.kind = 3
  · rw [if_pos h3]
    unfold beginS
    split
    · exact hx
    · rename_i hb
      have hbf : x.begun = false := by cases h : x.begun; rfl; exact absurd (Or.inl h) hb
      intro i o h
      simp only [hg.idle hbf] at h
      simp at h
  · rw [if_neg h3]
    by_cases h2 : r.kind = 2
    · rw [if_pos h2]
      unfold sureS
      cases ho : x.owned with
      | nil => exact hx
      | cons o os =>
        simp only
        split
        · split
          · intro i q h
            simp only at h ⊢
            rw [inputN_snoc, if_neg (fun h => by omega)]
            have := hx (i + 1) q (by rw [ho]; simpa using h)
            rw [← this]
            congr 1
            omega
          · exact hx
        · exact hx
    · rw [if_neg h2]
      unfold ownS
      split
      · rename_i hc
        have h1 : r.kind = 1 := by
          rcases hr with ⟨e, _⟩ | ⟨e, _⟩ | ⟨e, _⟩
          · exact e
          · exact absurd e h2
          · exact absurd e h3
        intro i q h
        simp only at h ⊢
        rw [inputN_snoc]
        by_cases hi : i < x.owned.length
        · rw [if_neg (fun h => by have := h.2; have := hc.2.2.2; omega)]
          exact hx i q (by rw [List.getElem?_append_left hi] at h; exact h)
        · have hil : i < (x.owned ++ [r.own]).length := (List.getElem?_eq_some_iff.1 h).1
          rw [List.length_append, List.length_singleton] at hil
          have hie : i = x.owned.length := by omega
          subst hie
          rw [if_pos ⟨h1, hc.2.2.2⟩]
          simpa using h
      · exact hx
end Go.Proofs.YtnhjhaphfdlkfaaDoor.Sg
/- The document's Said: Take, of a head. -/
set_option linter.unusedVariables false
set_option linter.unusedSimpArgs false
namespace Go.Proofs.YtnhjhaphfdlkfaaDoor.Sg
open Go.RowKit Go.Proofs.YtnhjhaphfdlkfaaDoor.HF Go.Proofs.YtnhjhaphfdlkfaaDoor.SB Go.Proofs.YtnhjhaphfdlkfaaDoorW.PrintWords Go.Proofs.YtnhjhaphfdlkfaaDoorW.PrintLast Go.Proofs.YtnhjhaphfdlkfaaDoorW.PrintMore
theorem rs_set {w w' : World} {base g : Nat} {x x' : Sc} {F : Nat → Prop} {vl : Value} (h2 : QRow w base 55 9 vl x.l.length (flatR x.l)) (h4 : F g) (h5 : ∀ k, vl.ownBlock = some k → F k) (h7 : ∀ k, F k → base ≤ k ∧ k < w.heap.size)
    (hg : ∃ cs, w.heap[g]? = some (.cells cs 109 (0, 0))) (hb : w'.heap[g]? = some (.cells (rsCells x' vl) 109 (0, 0))) (hk : Kept w w' (fun i => i = g)) (hB : Below base w w') (hl : x'.l = x.l) : DidRs w w' base g x' F := by
  obtain ⟨cs, hcs⟩ := hg
  have hvl : ∀ k, vl.ownBlock = some k → k ≠ g := fun k e hkg => by
    subst hkg
    obtain ⟨_, cells, hc⟩ := q_typed h2 k e
    rw [hcs] at hc; simp at hc
  refine ⟨F, ⟨vl, hb, ?_, h4, h5, fun k hf => ⟨(h7 k hf).1, Nat.lt_of_lt_of_le (h7 k hf).2 hk.1⟩⟩, fun k hf => Or.inl hf, hk.mono (fun k e => e ▸ h4), hB⟩
  rw [hl]
  exact q_move h2 (fun k e => hk.2 k (h7 k (h5 k e)).2 (hvl k e))
set_option maxHeartbeats 2000000 in
set_option maxRecDepth 100000 in
theorem rbegin_calls (w : World) (base g : Nat) (n : Int) (x : Sc) (F : Nat → Prop) (h : IsRs w base g x F) (hbw : base ≤ w.heap.size) (hx : x.Good) (r : Rec) (hk3 : r.kind = 3) :
    Calls Tryd.prog 54 #[.pointer (some ⟨g, 0, none⟩), r.val, .int .u64 n] w fun e w' => e = .returned (.int .i64 (beginS n x r).2) ∧ DidRs w w' base g (beginS n x r).1 F := by
  obtain ⟨vl, h1, h2, h3, h4, h5⟩ := h
  have hg := h5 g h3
  have c0 : w.cell? ⟨g, 0, none⟩ = some (.int .i64 x.head.kind) := blk_cell h1 0
  have z0 : w.frozen? ⟨g, 0, none⟩ = false := blk_frozen h1 0
  have c1 : w.cell? ⟨g, 1, none⟩ = some (.int .u64 x.head.frame) := blk_cell h1 1
  have z1 : w.frozen? ⟨g, 1, none⟩ = false := blk_frozen h1 1
  have c2 : w.cell? ⟨g, 2, none⟩ = some (.int .u8 x.head.own) := blk_cell h1 2
  have z2 : w.frozen? ⟨g, 2, none⟩ = false := blk_frozen h1 2
  have c3 : w.cell? ⟨g, 3, none⟩ = some (.int .u8 x.head.p0) := blk_cell h1 3
  have z3 : w.frozen? ⟨g, 3, none⟩ = false := blk_frozen h1 3
  have c4 : w.cell? ⟨g, 4, none⟩ = some (.int .u8 x.head.p1) := blk_cell h1 4
  have z4 : w.frozen? ⟨g, 4, none⟩ = false := blk_frozen h1 4
  have c5 : w.cell? ⟨g, 5, none⟩ = some (.int .u64 x.head.seg) := blk_cell h1 5
  have z5 : w.frozen? ⟨g, 5, none⟩ = false := blk_frozen h1 5
  have c6 : w.cell? ⟨g, 6, none⟩ = some (.int .u64 x.head.first) := blk_cell h1 6
  have z6 : w.frozen? ⟨g, 6, none⟩ = false := blk_frozen h1 6
  have c7 : w.cell? ⟨g, 7, none⟩ = some (.int .u64 x.head.epoch) := blk_cell h1 7
  have z7 : w.frozen? ⟨g, 7, none⟩ = false := blk_frozen h1 7
  have c8 : w.cell? ⟨g, 8, none⟩ = some (.int .u8 x.head.player) := blk_cell h1 8
  have z8 : w.frozen? ⟨g, 8, none⟩ = false := blk_frozen h1 8
  have c9 : w.cell? ⟨g, 9, none⟩ = some (.bool x.begun) := blk_cell h1 9
  have z9 : w.frozen? ⟨g, 9, none⟩ = false := blk_frozen h1 9
  have c10 : w.cell? ⟨g, 10, none⟩ = some vl := blk_cell h1 10
  have z10 : w.frozen? ⟨g, 10, none⟩ = false := blk_frozen h1 10
  have c11 : w.cell? ⟨g, 11, none⟩ = some (.int .u64 x.count) := blk_cell h1 11
  have z11 : w.frozen? ⟨g, 11, none⟩ = false := blk_frozen h1 11
  have c12 : w.cell? ⟨g, 12, none⟩ = some (.int .u64 (x.count + x.owned.length)) := blk_cell h1 12
  have z12 : w.frozen? ⟨g, 12, none⟩ = false := blk_frozen h1 12
  have hne : g ≠ w.heap.size := by omega
  have hlt := hg.2
  have HB1 := Lib.hid h1
  have H2 := Lib.hid h2
  clear h1 h2
  have hk : (r.kind == 3) = true := by simp [hk3]
  unfold Rec.val Rec.cells
  cases hbeg : x.begun
  · rw [hbeg] at c9
    by_cases hs : r.seg = n
    · have hsb : (r.seg != n) = false := by simp [hs]
      have HS := Lib.hid (show beginS n x r = ({ x with head := r, begun := true, count := r.first }, 0) from if_neg (by rw [hbeg]; simp [hs]))
      have hoz : x.owned = [] := hx.idle hbeg
      clear hs hbeg
      go_enter Tryd.func54, Tryd.ntmps54
      go_wp2
      go_ret
      rw [HS.out]
      refine ⟨rfl, rs_set H2.out h3 h4 h5 ⟨_, HB1.out⟩ ((blk_alloc (blk_set (blk_set (blk_set (blk_set (blk_set (blk_set (blk_set (blk_set (blk_set (blk_set (blk_set (blk_set HB1.out 0 _) 1 _) 2 _) 3 _) 4 _) 5 _) 6 _) 7 _) 8 _) 9 _) 11 _) 12 _) _).trans ?_) ?_ ?_ rfl⟩
      · simp [rsCells, hoz, hk3]
      · refine Kept.alloc ?_ _
        repeat (refine Kept.setCell (S := fun i => i = g) ?_ (Or.inl rfl) _)
        exact Kept.refl w _
      · refine Below.alloc ?_ (by simpa using hbw) _
        repeat (refine Below.setCell ?_ hg.1 _)
        exact Below.refl base w
    · have hsb : (r.seg != n) = true := by simp [hs]
      have HS := Lib.hid (show beginS n x r = (x, 11) from if_pos (Or.inr hs))
      clear hs
      go_enter Tryd.func54, Tryd.ntmps54
      go_wp2
      go_ret
      rw [HS.out]
      exact ⟨rfl, rs_set H2.out h3 h4 h5 ⟨_, HB1.out⟩ (blk_alloc HB1.out _) ((Kept.refl w _).alloc _) ((Below.refl base w).alloc hbw _) rfl⟩
  · rw [hbeg] at c9
    have HS := Lib.hid (show beginS n x r = (x, 11) from if_pos (Or.inl hbeg))
    clear hbeg
    go_enter Tryd.func54, Tryd.ntmps54
    go_wp2
    go_ret
    rw [HS.out]
    exact ⟨rfl, rs_set H2.out h3 h4 h5 ⟨_, HB1.out⟩ (blk_alloc HB1.out _) ((Kept.refl w _).alloc _) ((Below.refl base w).alloc hbw _) rfl⟩
end Go.Proofs.YtnhjhaphfdlkfaaDoor.Sg
/- The document's Said: between the steps of an append. -/
set_option linter.unusedVariables false
set_option linter.unusedSimpArgs false
namespace Go.Proofs.YtnhjhaphfdlkfaaDoor.Sg
open Go.RowKit Go.Proofs.YtnhjhaphfdlkfaaDoor.HF Go.Proofs.YtnhjhaphfdlkfaaDoor.SB Go.Proofs.YtnhjhaphfdlkfaaDoorW.PrintWords Go.Proofs.YtnhjhaphfdlkfaaDoorW.PrintLast Go.Proofs.YtnhjhaphfdlkfaaDoorW.PrintMore
structure MidR (w : World) (base g : Nat) (cs : Array Value) (r : Rec) (F : Nat → Prop) (w' : World) (L : List Rec) (vl' : Value) : Prop where
  hg : w'.heap[g]? = some (.cells cs 109 (0, 0))
  hr : w'.heap[w.heap.size]? = some (.cells r.cells 55 (0, 0))
  ql : QRow w' base 55 9 vl' L.length (flatR L)
  kept : Kept w w' F
  below : Below base w w'
  al : ∀ k, vl'.ownBlock = some k → F k ∧ k < w.heap.size ∨ w.heap.size < k
section
variable {w w' w2 : World} {base g : Nat} {cs : Array Value} {r : Rec} {F : Nat → Prop} {L : List Rec} {vl' : Value}
theorem midr_base (h : MidR w base g cs r F w' L vl') (hb : base ≤ w.heap.size) : base ≤ w'.heap.size := Nat.le_trans hb h.kept.1
theorem midr_lt (h : MidR w base g cs r F w' L vl') : w.heap.size < w'.heap.size := blk_lt h.hr
theorem midr_alloc (h : MidR w base g cs r F w' L vl') (hb : base ≤ w.heap.size) (ob : Obj) : MidR w base g cs r F (w'.alloc ob) L vl' :=
  ⟨blk_alloc h.hg ob, blk_alloc h.hr ob, q_alloc h.ql ob, h.kept.alloc ob, h.below.alloc (midr_base h hb) ob, h.al⟩
theorem midr_app (h : MidR w base g cs r F w' L vl') (hv : ∀ k, vl'.ownBlock = some k → F k ∧ k < w.heap.size) (hbw : base ≤ w.heap.size) (q : Rec) {v2 : Value}
    (hq : QRow w2 base 55 9 v2 (L.length + 1) (flatR L ++ q.cells.toList)) (hg : w'.grownBy w2 vl'.ownBlock) (hat : v2.ownBlock = vl'.ownBlock ∨ ∃ b, v2.ownBlock = some b ∧ w'.heap.size ≤ b) : MidR w base g cs r F w2 (L ++ [q]) v2 := by
  have hlt := midr_lt h
  refine ⟨?_, (hg.block _ hlt (fun e => by have := (hv _ e.symm).2; omega)).trans h.hr, ?_, Kept.of_grown hg h.kept (fun k hk => Or.inl (hv k hk).1), h.below.grown hg (midr_base h hbw) (fun k hk => (q_typed h.ql k hk).1), fun k hk => ?_⟩
  · refine (hg.block g (blk_lt h.hg) (fun e => ?_)).trans h.hg
    obtain ⟨_, c, hc⟩ := q_typed h.ql g e.symm
    have := h.hg
    rw [hc] at this; simp at this
  · rw [List.length_append, flatR_append, flatR_one]; exact hq
  · rcases hat with e | ⟨b, e, hb⟩
    · exact h.al k (e ▸ hk)
    · rw [e] at hk; cases hk; exact Or.inr (by omega)
theorem midr_end (h : MidR w base g cs r F w' L vl') (h4 : F g) (h7 : ∀ k, F k → base ≤ k ∧ k < w.heap.size) {x' : Sc} (hb : w2.heap[g]? = some (.cells (rsCells x' vl') 109 (0, 0))) (hk : Kept w' w2 (fun i => i = g)) (hB : Below base w' w2) (hl : x'.l = L) : DidRs w w2 base g x' F := by
  have hvl : ∀ k, vl'.ownBlock = some k → k ≠ g := fun k e hkg => by
    subst hkg
    obtain ⟨_, c, hc⟩ := q_typed h.ql _ e
    have := h.hg
    rw [hc] at this; simp at this
  have ql2 : QRow w2 base 55 9 vl' L.length (flatR L) := q_move h.ql (fun k e => hk.2 k (q_lt h.ql k e) (hvl k e))
  refine ⟨fun k => F k ∨ vl'.ownBlock = some k, ⟨vl', hb, by rw [hl]; exact ql2, Or.inl h4, fun k e => Or.inr e, ?_⟩, ?_, h.kept.then_ hk (fun k e => Or.inl (e ▸ h4)), h.below.trans hB⟩
  · intro k hf
    rcases hf with hf | hf
    · exact ⟨(h7 k hf).1, Nat.lt_of_lt_of_le (h7 k hf).2 (Nat.le_trans h.kept.1 hk.1)⟩
    · exact ⟨(q_typed ql2 k hf).1, q_lt ql2 k hf⟩
  · intro k hf
    rcases hf with hf | hf
    · exact Or.inl hf
    · rcases h.al k hf with h | h
      · exact Or.inl h.1
      · exact Or.inr (by omega)
end
end Go.Proofs.YtnhjhaphfdlkfaaDoor.Sg
/- The document's Said: Take, of an own. -/
set_option linter.unusedVariables false
set_option linter.unusedSimpArgs false
namespace Go.Proofs.YtnhjhaphfdlkfaaDoor.Sg
open Go.RowKit Go.Proofs.YtnhjhaphfdlkfaaDoor.HF Go.Proofs.YtnhjhaphfdlkfaaDoor.SB Go.Proofs.YtnhjhaphfdlkfaaDoorW.PrintWords Go.Proofs.YtnhjhaphfdlkfaaDoorW.PrintLast Go.Proofs.YtnhjhaphfdlkfaaDoorW.PrintMore
theorem midr_set {w w' : World} {base g : Nat} {cs : Array Value} {r : Rec} {F : Nat → Prop} {L : List Rec} {vl' : Value} (h : MidR w base g cs r F w' L vl') (h3 : F g) (hg : base ≤ g ∧ g < w.heap.size) (j : Nat) (v : Value) : MidR w base g (cs.setIfInBounds j v) r F (w'.setCell ⟨g, j, none⟩ v) L vl' := by
  have hK : Kept w' (w'.setCell ⟨g, j, none⟩ v) (fun i => i = g) := Kept.setCell (S := fun i => i = g) (Kept.refl _ _) (Or.inl rfl) _
  have hvl : ∀ k, vl'.ownBlock = some k → k ≠ g := fun k e hkg => by
    subst hkg
    obtain ⟨_, c, hc⟩ := q_typed h.ql _ e
    have := h.hg
    rw [hc] at this; simp at this
  exact ⟨blk_set h.hg j v, (hK.2 _ (blk_lt h.hr) (by have := hg.2; omega)).trans h.hr, q_move h.ql (fun k e => hK.2 k (q_lt h.ql k e) (hvl k e)), h.kept.then_ hK (fun k e => Or.inl (e ▸ h3)), h.below.setCell hg.1 _, h.al⟩
theorem info55b : (Tryd.prog.info? 55).map (fun i => (i.zero, i.size, i.bytes)) = some (some Rec.zero.val, 9, 56) := by kernel_rfl
set_option maxHeartbeats 4000000 in
set_option maxRecDepth 100000 in
theorem rown_calls (w : World) (base g : Nat) (n : Int) (x : Sc) (F : Nat → Prop) (h : IsRs w base g x F) (hbw : base ≤ w.heap.size) (hx : x.Good) (r : Rec) (hk1 : r.kind = 1) (hr : 0 ≤ r.frame ∧ r.frame < 18446744073709551616) (hll : x.l.length ≤ 100000) :
    Calls Tryd.prog 54 #[.pointer (some ⟨g, 0, none⟩), r.val, .int .u64 n] w fun e w' => e = .returned (.int .i64 (ownS x r).2) ∧ DidRs w w' base g (ownS x r).1 F := by
  obtain ⟨vl, h1, h2, h3, h4, h5⟩ := h
  obtain ⟨kd, fr, ow, a0, a1, sg, fi, ep, pl⟩ := r
  dsimp only at hk1 hr
  subst hk1
  have hg := h5 g h3
  obtain ⟨Al, cl, rfl, hlc⟩ := q_slice h2
  have hfr := hx.frames
  have hidle := hx.idle
  have c9 : w.cell? ⟨g, 9, none⟩ = some (.bool x.begun) := blk_cell h1 9
  have c11 : w.cell? ⟨g, 11, none⟩ = some (.int .u64 x.count) := blk_cell h1 11
  have c12 : w.cell? ⟨g, 12, none⟩ = some (.int .u64 (x.count + x.owned.length)) := blk_cell h1 12
  have z12 : w.frozen? ⟨g, 12, none⟩ = false := blk_frozen h1 12
  have hne : g ≠ w.heap.size := by omega
  have hlt := hg.2
  have HB1 := Lib.hid h1
  have H2 := Lib.hid h2
  clear h1 h2
  have HD0 := Lib.hid (rs_set (w := w) (w' := (w.alloc (.cells #[.int .i64 1, .int .u64 fr, .int .u8 ow, .int .u8 a0, .int .u8 a1, .int .u64 sg, .int .u64 fi, .int .u64 ep, .int .u8 pl] 55))) (x := x) (x' := x) H2.out h3 h4 h5 ⟨_, HB1.out⟩ (blk_alloc HB1.out _) (((Kept.refl w _).alloc _)) ((Below.refl base w).alloc hbw _) rfl)
  have HDid := Lib.hid (fun m => rs_set (w := w) (w' := (w.alloc (.cells #[.int .i64 1, .int .u64 fr, .int .u8 ow, .int .u8 a0, .int .u8 a1, .int .u64 sg, .int .u64 fi, .int .u64 ep, .int .u8 pl] 55)).drewN m) (x := x) (x' := x) H2.out h3 h4 h5 ⟨_, HB1.out⟩ (blk_alloc HB1.out _) (((Kept.refl w _).alloc _).drewN _) (pw_below_drewN ((Below.refl base w).alloc hbw _) _) rfl)
  unfold Rec.val Rec.cells
  dsimp only
  cases hbeg : x.begun
  · rw [hbeg] at c9
    have HS := Lib.hid (show ownS x ⟨1, fr, ow, a0, a1, sg, fi, ep, pl⟩ = (x, 11) from if_neg (by rw [hbeg]; simp))
    clear hbeg
    go_enter Tryd.func54, Tryd.ntmps54
    go_wp2
    go_ret
    rw [HS.out]
    exact ⟨rfl, HD0.out⟩
  · rw [hbeg] at c9
    have Hx := Lib.hid (show x.count + (x.owned.length : Int) = x.count + (x.owned.length : Int) from rfl)
    generalize hN : x.count + (x.owned.length : Int) = N at c12 hfr
    by_cases hfe : fr = N
    · have dfe : (fr != N) = false := by simp [hfe]
      have hsub : IntKind.u64.wrap (N - x.count) = N - x.count := IntWalk.u64_in _ ⟨by omega, by omega⟩
      by_cases h12 : x.owned.length < 12
      · have d12 : decide (12 ≤ N - x.count) = false := decide_eq_false (by omega)
        by_cases hmx : fr = 18446744073709551615
        · have dmx : (fr == 18446744073709551615) = true := by rw [hmx]; rfl
          have HS := Lib.hid (show ownS x ⟨1, fr, ow, a0, a1, sg, fi, ep, pl⟩ = (x, 11) from if_neg (fun h => h.2.2.1 hmx))
          clear hbeg hmx hfe hN hx hidle hfr
          go_enter Tryd.func54, Tryd.ntmps54
          go_wp2_with fail
          go_quiet (fail)
          go_wp2
          go_ret
          rw [HS.out]
          exact ⟨rfl, HDid.out _⟩
        · have dmx : (fr == 18446744073709551615) = false := beq_eq_false_iff_ne.2 hmx
          have hinc : IntKind.u64.wrap (N + 1) = N + 1 := IntWalk.u64_in _ ⟨by omega, by omega⟩
          have HS := Lib.hid (show ownS x ⟨1, fr, ow, a0, a1, sg, fi, ep, pl⟩ = ({ x with owned := x.owned ++ [ow], l := x.l ++ [⟨1, fr, ow, a0, a1, sg, fi, ep, pl⟩] }, 0) from if_pos ⟨hbeg, h12, hmx, by show fr = _; omega⟩)
          have HB := Lib.hid hbeg
          have HN := Lib.hid hN
          clear hbeg hmx hfe hN hx hidle hfr
          go_enter Tryd.func54, Tryd.ntmps54
          go_wp2_with fail
          go_quiet (fail)
          go_wp2_with fail
          have hvl : ∀ k, (Value.slice Al x.l.length cl).ownBlock = some k → F k ∧ k < w.heap.size := fun k e => ⟨h4 k e, (h5 k (h4 k e)).2⟩
          have HM0 : MidR w base g _ ⟨1, fr, ow, a0, a1, sg, fi, ep, pl⟩ F ((w.alloc (.cells #[.int .i64 1, .int .u64 fr, .int .u8 ow, .int .u8 a0, .int .u8 a1, .int .u64 sg, .int .u64 fi, .int .u64 ep, .int .u8 pl] 55)).drewN nq) x.l (.slice Al x.l.length cl) :=
            ⟨blk_alloc HB1.out _, heap_alloc_new w _, q_alloc H2.out _, ((Kept.refl w _).alloc _).drewN _, pw_below_drewN ((Below.refl base w).alloc hbw _) _, fun k e => Or.inl (hvl k e)⟩
          have HM1 := Lib.hid (midr_set HM0 h3 hg 12 (.int .u64 (N + 1)))
          clear HM0
          clear c9 c11 c12 z12 dfe hsub d12 dmx hinc HD0 HDid
          generalize (((w.alloc (.cells #[.int .i64 1, .int .u64 fr, .int .u8 ow, .int .u8 a0, .int .u8 a1, .int .u64 sg, .int .u64 fi, .int .u64 ep, .int .u8 pl] 55)).drewN nq).setCell ⟨g, 12, none⟩ (.int .u64 (N + 1))) = w1 at HM1 ⊢
          have HMd := Lib.hid (show MidR w base g _ ⟨1, fr, ow, a0, a1, sg, fi, ep, pl⟩ F w1.drew x.l (.slice Al x.l.length cl) from ⟨HM1.out.hg, HM1.out.hr, HM1.out.ql, HM1.out.kept, ⟨HM1.out.below.os, HM1.out.below.tape, HM1.out.below.output, HM1.out.below.size, HM1.out.below.block⟩, HM1.out.al⟩)
          refine start_ (n := 11) (S := (fun w' => w'.cell? ⟨g, 10, none⟩ = some (.slice Al x.l.length cl) ∧ w'.cell? ⟨w.heap.size, 0, none⟩ = some (.int .i64 1) ∧ w'.cell? ⟨w.heap.size, 1, none⟩ = some (.int .u64 fr) ∧ w'.cell? ⟨w.heap.size, 2, none⟩ = some (.int .u8 ow) ∧ w'.cell? ⟨w.heap.size, 3, none⟩ = some (.int .u8 a0) ∧ w'.cell? ⟨w.heap.size, 4, none⟩ = some (.int .u8 a1) ∧ w'.cell? ⟨w.heap.size, 5, none⟩ = some (.int .u64 sg) ∧ w'.cell? ⟨w.heap.size, 6, none⟩ = some (.int .u64 fi) ∧ w'.cell? ⟨w.heap.size, 7, none⟩ = some (.int .u64 ep) ∧ w'.cell? ⟨w.heap.size, 8, none⟩ = some (.int .u8 pl))) (ds := [10]) #[false, false, false, false, false, false, false, false, false, false, false] (by kernel_rfl) rfl rfl ⟨blk_cell (HMd.out).hg 10, blk_cell (HMd.out).hr 0, blk_cell (HMd.out).hr 1, blk_cell (HMd.out).hr 2, blk_cell (HMd.out).hr 3, blk_cell (HMd.out).hr 4, blk_cell (HMd.out).hr 5, blk_cell (HMd.out).hr 6, blk_cell (HMd.out).hr 7, blk_cell (HMd.out).hr 8⟩ (fun hHeld => ?_)
          generalize w1.drew = wd at HMd hHeld ⊢
          refine pure_ (i := 0) (N := some 76) (v := ?_) (a' := ?_) #[true, false, false, false, false, false, false, false, false, false, false] rfl rfl (by kernel_rfl) (fun _ _ _ h => h) (Or.inl ⟨by rfl, ?_⟩) ?_ ?_
          rotate_left
          · intro w'
            go_simp
            with_reducible rfl
          rotate_left
          · simp only [Act.put, List.setIfInBounds_toArray, List.set_cons_zero, List.set_cons_succ, i64_w, i32_w]
            rfl
          refine pure_ (i := 1) (N := some 77) (v := ?_) (a' := ?_) #[true, true, false, false, false, false, false, false, false, false, false] rfl rfl (by kernel_rfl) (fun _ _ _ h => h) (Or.inl ⟨by rfl, ?_⟩) ?_ ?_
          rotate_left
          · intro w'
            go_simp
            with_reducible rfl
          rotate_left
          · simp only [Act.put, List.setIfInBounds_toArray, List.set_cons_zero, List.set_cons_succ, i64_w, i32_w]
            rfl
          refine pure_ (i := 2) (N := some 78) (v := ?_) (a' := ?_) #[true, true, true, false, false, false, false, false, false, false, false] rfl rfl (by kernel_rfl) (fun _ _ _ h => h) (Or.inl ⟨by rfl, ?_⟩) ?_ ?_
          rotate_left
          · intro w'
            go_simp
            with_reducible rfl
          rotate_left
          · simp only [Act.put, List.setIfInBounds_toArray, List.set_cons_zero, List.set_cons_succ, i64_w, i32_w]
            rfl
          refine pure_ (i := 3) (N := some 79) (v := ?_) (a' := ?_) #[true, true, true, true, false, false, false, false, false, false, false] rfl rfl (by kernel_rfl) (fun _ _ _ h => h) (Or.inl ⟨by rfl, ?_⟩) ?_ ?_
          rotate_left
          · intro w'
            go_simp
            with_reducible rfl
          rotate_left
          · simp only [Act.put, List.setIfInBounds_toArray, List.set_cons_zero, List.set_cons_succ, i64_w, i32_w]
            rfl
          refine take_ (i := 4) (N := some 80) (v := ?_) (a' := ?_) #[true, true, true, true, true, false, false, false, false, false, false] rfl rfl (by kernel_rfl) (fun _ _ _ h => h) (Or.inl ⟨by rfl, ?_⟩) hHeld ?_ ?_
          rotate_left
          · rintro w' ⟨s0, s1, s2, s3, s4, s5, s6, s7, s8, s9⟩
            go_simp
            with_reducible rfl
          rotate_left
          · simp only [Act.put, List.setIfInBounds_toArray, List.set_cons_zero, List.set_cons_succ, i64_w, i32_w]
            rfl
          refine take_ (i := 5) (N := some 81) (v := ?_) (a' := ?_) #[true, true, true, true, true, true, false, false, false, false, false] rfl rfl (by kernel_rfl) (fun _ _ _ h => h) (Or.inl ⟨by rfl, ?_⟩) hHeld ?_ ?_
          rotate_left
          · rintro w' ⟨s0, s1, s2, s3, s4, s5, s6, s7, s8, s9⟩
            go_simp
            with_reducible rfl
          rotate_left
          · simp only [Act.put, List.setIfInBounds_toArray, List.set_cons_zero, List.set_cons_succ, i64_w, i32_w]
            rfl
          refine one_ (i := 6) (N := some 82) #[true, true, true, true, true, true, true, false, false, false, false] rfl rfl (by kernel_rfl) (by decide) (fun K hK => ?_)
          refine value_ (w1 := ?_) (v := ?_) (by rfl) rfl ?_ ?_
          rotate_left 2
          · go_simp
            constructor
            · rfl
            · rfl
          refine hK.out _ _ ⟨blk_cell (midr_alloc (HMd.out) hbw _).hg 10, blk_cell (midr_alloc (HMd.out) hbw _).hr 0, blk_cell (midr_alloc (HMd.out) hbw _).hr 1, blk_cell (midr_alloc (HMd.out) hbw _).hr 2, blk_cell (midr_alloc (HMd.out) hbw _).hr 3, blk_cell (midr_alloc (HMd.out) hbw _).hr 4, blk_cell (midr_alloc (HMd.out) hbw _).hr 5, blk_cell (midr_alloc (HMd.out) hbw _).hr 6, blk_cell (midr_alloc (HMd.out) hbw _).hr 7, blk_cell (midr_alloc (HMd.out) hbw _).hr 8⟩ (fun hHeld => ?_)
          clear hK K
          refine norm_ (a' := ?_) ?_ ?_
          rotate_left
          · show Act.put _ (some 82) _ = _
            simp only [Act.put, List.setIfInBounds_toArray, List.set_cons_zero, List.set_cons_succ, i64_w, i32_w]
            rfl
          refine one_ (i := 7) (N := some 83) #[true, true, true, true, true, true, true, true, false, false, false] rfl rfl (by kernel_rfl) (by decide) (fun K hK => ?_)
          refine q_app_step base (by rfl) (.tmp 80) (.tmp 82) 56 55 Rec.zero.val 9 56 (by rfl) Tryd.underlying56 info55b rfl (by decide) (by decide) (.slice Al x.l.length cl) x.l.length (flatR x.l) ⟨wd.heap.size, 0, none⟩ 1 1 (⟨1, fr, ow, a0, a1, sg, fi, ep, pl⟩ : Rec).cells.toList (by rfl) (by rfl) (by decide) rfl ?hn (by intro u hu; exact (Array.all_eq_true_iff_forall_mem.1 (⟨1, fr, ow, a0, a1, sg, fi, ep, pl⟩ : Rec).ones) u (by simpa using hu)) ?hq ?hbase (by omega) ?_
          case hn => exact news_blk (heap_alloc_new wd _)
          case hq => exact (midr_alloc (HMd.out) hbw _).ql
          case hbase => exact midr_base (midr_alloc (HMd.out) hbw _) hbw
          intro v_ w3 hq hgr hat
          obtain ⟨AL, cL, hv_, _⟩ := q_slice hq
          subst hv_
          have HM3 := Lib.hid (midr_app (midr_alloc (HMd.out) hbw _) hvl hbw (⟨1, fr, ow, a0, a1, sg, fi, ep, pl⟩ : Rec) hq hgr hat)
          clear hq hgr hat
          refine hK.out _ _ ⟨blk_cell (HM3.out).hg 10, blk_cell (HM3.out).hr 0, blk_cell (HM3.out).hr 1, blk_cell (HM3.out).hr 2, blk_cell (HM3.out).hr 3, blk_cell (HM3.out).hr 4, blk_cell (HM3.out).hr 5, blk_cell (HM3.out).hr 6, blk_cell (HM3.out).hr 7, blk_cell (HM3.out).hr 8⟩ (fun hHeld => ?_)
          clear hK K
          refine norm_ (a' := ?_) ?_ ?_
          rotate_left
          · show Act.put _ (some 83) _ = _
            simp only [Act.put, List.setIfInBounds_toArray, List.set_cons_zero, List.set_cons_succ, i64_w, i32_w]
            rfl
          refine pure_ (i := 8) (N := some 84) (v := ?_) (a' := ?_) #[true, true, true, true, true, true, true, true, true, false, false] rfl rfl (by kernel_rfl) (fun _ _ _ h => h) (Or.inl ⟨by rfl, ?_⟩) ?_ ?_
          rotate_left
          · intro w'
            go_simp
            with_reducible rfl
          rotate_left
          · simp only [Act.put, List.setIfInBounds_toArray, List.set_cons_zero, List.set_cons_succ, i64_w, i32_w]
            rfl
          refine pure_ (i := 9) (N := some 85) (v := ?_) (a' := ?_) #[true, true, true, true, true, true, true, true, true, true, false] rfl rfl (by kernel_rfl) (fun _ _ _ h => h) (Or.inl ⟨by rfl, ?_⟩) ?_ ?_
          rotate_left
          · intro w'
            go_simp
            with_reducible rfl
          rotate_left
          · simp only [Act.put, List.setIfInBounds_toArray, List.set_cons_zero, List.set_cons_succ, i64_w, i32_w]
            rfl
          refine last_ (i := 10) (N := none) #[true, true, true, true, true, true, true, true, true, true, true] rfl rfl (by kernel_rfl) (by decide) (fun K hK => ?_)
          have t10 : w3.cell? ⟨g, 10, none⟩ = some (.slice Al x.l.length cl) := blk_cell HM3.out.hg 10
          have z10 := blk_frozen HM3.out.hg 10
          refine skip_ (w1 := ?_) (by rfl) rfl ?_ ?_
          rotate_left
          · go_simp
            rfl
          refine hK.out _ _ ?_
          clear hK K
          refine done_ (by kernel_rfl) ?_
          go_wp2
          go_ret
          rw [HS.out]
          refine ⟨rfl, midr_end HM3.out h3 h5 (x' := { x with owned := x.owned ++ [ow], l := x.l ++ [⟨1, fr, ow, a0, a1, sg, fi, ep, pl⟩] }) ((blk_set HM3.out.hg 10 _).trans ?_) ?_ ?_ rfl⟩
          · simp [rsCells, ← HN.out]; omega
          · exact Kept.setCell (S := fun i => i = g) (Kept.refl _ _) (Or.inl rfl) _
          · exact (Below.refl base _).setCell hg.1 _
      · have d12 : decide (12 ≤ N - x.count) = true := decide_eq_true (by omega)
        have HS := Lib.hid (show ownS x ⟨1, fr, ow, a0, a1, sg, fi, ep, pl⟩ = (x, 11) from if_neg (fun h => h12 h.2.1))
        clear hbeg hfe hN hx hidle hfr
        go_enter Tryd.func54, Tryd.ntmps54
        go_wp2_with fail
        go_quiet (fail)
        go_wp2
        go_ret
        rw [HS.out]
        exact ⟨rfl, HDid.out _⟩
    · have dfe : (fr != N) = true := by simp [hfe]
      have HS := Lib.hid (show ownS x ⟨1, fr, ow, a0, a1, sg, fi, ep, pl⟩ = (x, 11) from if_neg (fun h => hfe (by have : fr = _ := h.2.2.2; omega)))
      clear hbeg hfe hN hx hidle hfr
      go_enter Tryd.func54, Tryd.ntmps54
      go_wp2_with fail
      go_quiet (fail)
      go_wp2
      go_ret
      rw [HS.out]
      exact ⟨rfl, HDid.out _⟩
end Go.Proofs.YtnhjhaphfdlkfaaDoor.Sg
/- The document's Said: Take, of a sure. -/
set_option linter.unusedVariables false
set_option linter.unusedSimpArgs false
namespace Go.Proofs.YtnhjhaphfdlkfaaDoor.Sg
open Go.RowKit Go.Proofs.YtnhjhaphfdlkfaaDoor.HF Go.Proofs.YtnhjhaphfdlkfaaDoor.SB Go.Proofs.YtnhjhaphfdlkfaaDoorW.PrintWords Go.Proofs.YtnhjhaphfdlkfaaDoorW.PrintLast Go.Proofs.YtnhjhaphfdlkfaaDoorW.PrintMore
theorem rs_kept {w w' : World} {base g : Nat} {x : Sc} {F : Nat → Prop} (h : IsRs w base g x F) (hk : Kept w w' (fun _ => False)) : IsRs w' base g x F := by
  obtain ⟨vl, h1, h2, h3, h4, h5⟩ := h
  exact ⟨vl, (hk.2 g (h5 g h3).2 (fun h => h)).trans h1, q_move h2 (fun k e => hk.2 k (h5 k (h4 k e)).2 (fun h => h)), h3, h4, fun k hf => ⟨(h5 k hf).1, Nat.lt_of_lt_of_le (h5 k hf).2 hk.1⟩⟩
set_option maxHeartbeats 4000000 in
set_option maxRecDepth 100000 in
theorem rsure_calls (w : World) (base g : Nat) (n : Int) (x : Sc) (F : Nat → Prop) (h : IsRs w base g x F) (hbw : base ≤ w.heap.size) (hx : x.Good) (ht : x.Tells) (r : Rec) (hk2 : r.kind = 2) (hr : 0 ≤ r.frame ∧ r.frame < 18446744073709551616) (hll : x.l.length ≤ 100000) :
    Calls Tryd.prog 54 #[.pointer (some ⟨g, 0, none⟩), r.val, .int .u64 n] w fun e w' => e = .returned (.int .i64 (sureS x r).2) ∧ DidRs w w' base g (sureS x r).1 F := by
  have HI := Lib.hid h
  obtain ⟨vl, h1, h2, h3, h4, h5⟩ := h
  obtain ⟨kd, fr, ow, a0, a1, sg, fi, ep, pl⟩ := r
  dsimp only at hk2 hr
  subst hk2
  have hg := h5 g h3
  obtain ⟨Al, cl, rfl, hlc⟩ := q_slice h2
  have hfr := hx.frames
  have hp := hx.player
  have c9 : w.cell? ⟨g, 9, none⟩ = some (.bool x.begun) := blk_cell h1 9
  have c11 : w.cell? ⟨g, 11, none⟩ = some (.int .u64 x.count) := blk_cell h1 11
  have c12 : w.cell? ⟨g, 12, none⟩ = some (.int .u64 (x.count + x.owned.length)) := blk_cell h1 12
  have hne : g ≠ w.heap.size := by omega
  have hlt := hg.2
  have HB1 := Lib.hid h1
  have H2 := Lib.hid h2
  clear h1 h2
  have HD0 := Lib.hid (rs_set (w := w) (w' := (w.alloc (.cells #[.int .i64 2, .int .u64 fr, .int .u8 ow, .int .u8 a0, .int .u8 a1, .int .u64 sg, .int .u64 fi, .int .u64 ep, .int .u8 pl] 55))) (x := x) (x' := x) H2.out h3 h4 h5 ⟨_, HB1.out⟩ (blk_alloc HB1.out _) (((Kept.refl w _).alloc _)) ((Below.refl base w).alloc hbw _) rfl)
  have HDid1 := Lib.hid (fun m => rs_set (w := w) (w' := (w.alloc (.cells #[.int .i64 2, .int .u64 fr, .int .u8 ow, .int .u8 a0, .int .u8 a1, .int .u64 sg, .int .u64 fi, .int .u64 ep, .int .u8 pl] 55)).drewN m) (x := x) (x' := x) H2.out h3 h4 h5 ⟨_, HB1.out⟩ (blk_alloc HB1.out _) (((Kept.refl w _).alloc _).drewN _) (pw_below_drewN ((Below.refl base w).alloc hbw _) _) rfl)
  have HDid := Lib.hid (fun m => rs_set (w := w) (w' := ((w.alloc (.cells #[.int .i64 2, .int .u64 fr, .int .u8 ow, .int .u8 a0, .int .u8 a1, .int .u64 sg, .int .u64 fi, .int .u64 ep, .int .u8 pl] 55)).drewN m).drew) (x := x) (x' := x) H2.out h3 h4 h5 ⟨_, HB1.out⟩ (blk_alloc HB1.out _) ((((Kept.refl w _).alloc _).drewN _).drewN 1) (pw_below_drewN (pw_below_drewN ((Below.refl base w).alloc hbw _) _) 1) rfl)
  unfold Rec.val Rec.cells
  dsimp only
  cases hbeg : x.begun
  · rw [hbeg] at c9
    have HS := Lib.hid (show sureS x (⟨2, fr, ow, a0, a1, sg, fi, ep, pl⟩ : Rec) = (x, 11) by unfold sureS; split; rfl; exact if_neg (by rw [hbeg]; simp))
    clear hbeg
    go_enter Tryd.func54, Tryd.ntmps54
    go_wp2
    go_ret
    rw [HS.out]
    exact ⟨rfl, HD0.out⟩
  · rw [hbeg] at c9
    have HK := Lib.hid hx
    by_cases hfe : fr = x.count
    · have dfe : (fr != x.count) = false := by simp [hfe]
      cases hown : x.owned with
      | nil =>
        rw [hown] at c12
        have c12' : w.cell? ⟨g, 12, none⟩ = some (.int .u64 x.count) := by rw [c12]; simp
        have hle : decide (x.count ≤ x.count) = true := by simp
        have HS := Lib.hid (show sureS x (⟨2, fr, ow, a0, a1, sg, fi, ep, pl⟩ : Rec) = (x, 11) by unfold sureS; rw [hown])
        clear hbeg hfe hown hx ht hfr c12 hp
        clear HK
        go_enter Tryd.func54, Tryd.ntmps54
        go_wp2_with fail
        go_quiet (fail)
        go_wp2
        go_ret
        rw [HS.out]
        exact ⟨rfl, HDid1.out _⟩
      | cons o os =>
        have hol : x.owned.length = os.length + 1 := by rw [hown]; rfl
        have hin : inputN fr x.l 0 = o := by
          have := ht 0 o (by rw [hown]; rfl)
          rw [hfe, ← this]; congr 1; omega
        have HIn := Lib.hid (fun w' (h' : IsRs w' base g x F) => by have := input_calls w' base g x F h' hll fr; rw [hin] at this; exact this)
        have hcnt : IntKind.u64.wrap (x.count + 1) = x.count + 1 := IntWalk.u64_in _ ⟨by omega, by omega⟩
        have hsm : decide (x.count + (os.length + 1 : Nat) ≤ x.count) = false := decide_eq_false (by omega)
        have c12' : w.cell? ⟨g, 12, none⟩ = some (.int .u64 (x.count + (os.length + 1 : Nat))) := by rw [c12, hol]
        clear c12
        rename _ => c12
        generalize hN : x.count + ((os.length + 1 : Nat) : Int) = N at c12 hsm
        have HN := Lib.hid hN
        clear hN
        by_cases hpo : Rec.pair (⟨2, fr, ow, a0, a1, sg, fi, ep, pl⟩ : Rec) x.head.player = o
        · have HS := Lib.hid (show sureS x (⟨2, fr, ow, a0, a1, sg, fi, ep, pl⟩ : Rec) = ({ x with count := x.count + 1, owned := os, l := x.l ++ [(⟨2, fr, ow, a0, a1, sg, fi, ep, pl⟩ : Rec)] }, 0) by unfold sureS; rw [hown]; exact (if_pos ⟨hbeg, hfe⟩).trans (if_pos hpo))
          clear hbeg hfe hown hx ht hfr hin
          rcases hp with hp | hp
          · have dpo : (a0 != o) = false := by rw [hp] at hpo; simpa [Rec.pair] using hpo
            clear hpo
            go_enter Tryd.func54, Tryd.ntmps54
            go_wp2_with fail
            go_quiet (fail)
            go_wp2_with fail
            have hvl : ∀ k, (Value.slice Al x.l.length cl).ownBlock = some k → F k ∧ k < w.heap.size := fun k e => ⟨h4 k e, (h5 k (h4 k e)).2⟩
            have HMd := Lib.hid (show MidR w base g _ (⟨2, fr, ow, a0, a1, sg, fi, ep, pl⟩ : Rec) F ((w.alloc (.cells #[.int .i64 2, .int .u64 fr, .int .u8 ow, .int .u8 a0, .int .u8 a1, .int .u64 sg, .int .u64 fi, .int .u64 ep, .int .u8 pl] 55)).drewN nq).drew x.l (.slice Al x.l.length cl) from
              ⟨blk_alloc HB1.out _, heap_alloc_new w _, q_alloc H2.out _, (((Kept.refl w _).alloc _).drewN _).drewN 1, pw_below_drewN (pw_below_drewN ((Below.refl base w).alloc hbw _) _) 1, fun k e => Or.inl (hvl k e)⟩)
            have HCall := Lib.hid (HIn.out ((w.alloc (.cells #[.int .i64 2, .int .u64 fr, .int .u8 ow, .int .u8 a0, .int .u8 a1, .int .u64 sg, .int .u64 fi, .int .u64 ep, .int .u8 pl] 55)).drewN nq).drew (rs_kept HI.out (((Kept.refl w _).alloc _).drewN nq |>.drewN 1)))
            clear c9 c12 dfe HD0
            have s8 : ((w.alloc (.cells #[.int .i64 2, .int .u64 fr, .int .u8 ow, .int .u8 a0, .int .u8 a1, .int .u64 sg, .int .u64 fi, .int .u64 ep, .int .u8 pl] 55)).drewN nq).drew.cell? ⟨g, 8, none⟩ = some (.int .u8 0) := (blk_cell HMd.out.hg 8).trans (show some (Value.int .u8 x.head.player) = _ by rw [hp])
            refine start_ (n := 13) (S := (fun w' => w'.cell? ⟨g, 8, none⟩ = some (.int .u8 0) ∧ w'.cell? ⟨w.heap.size, 1, none⟩ = some (.int .u64 fr) ∧ w'.cell? ⟨w.heap.size, 3, none⟩ = some (.int .u8 a0))) (ds := []) #[false, false, false, false, false, false, false, false, false, false, false, false, false] (by kernel_rfl) rfl rfl ⟨s8, blk_cell HMd.out.hr 1, blk_cell HMd.out.hr 3⟩ (fun hHeld => ?_)
            refine pure_ (i := 0) (N := some 104) (v := ?_) (a' := ?_) #[true, false, false, false, false, false, false, false, false, false, false, false, false] rfl rfl (by kernel_rfl) (fun _ _ _ h => h) (Or.inl ⟨by rfl, ?_⟩) ?_ ?_
            rotate_left
            · intro w'
              go_simp
              with_reducible rfl
            rotate_left
            · simp only [Act.put, List.setIfInBounds_toArray, List.set_cons_zero, List.set_cons_succ, i64_w, i32_w]
              rfl
            refine pure_ (i := 1) (N := some 105) (v := ?_) (a' := ?_) #[true, true, false, false, false, false, false, false, false, false, false, false, false] rfl rfl (by kernel_rfl) (fun _ _ _ h => h) (Or.inl ⟨by rfl, ?_⟩) ?_ ?_
            rotate_left
            · intro w'
              go_simp
              with_reducible rfl
            rotate_left
            · simp only [Act.put, List.setIfInBounds_toArray, List.set_cons_zero, List.set_cons_succ, i64_w, i32_w]
              rfl
            refine pure_ (i := 2) (N := some 106) (v := ?_) (a' := ?_) #[true, true, true, false, false, false, false, false, false, false, false, false, false] rfl rfl (by kernel_rfl) (fun _ _ _ h => h) (Or.inl ⟨by rfl, ?_⟩) ?_ ?_
            rotate_left
            · intro w'
              go_simp
              with_reducible rfl
            rotate_left
            · simp only [Act.put, List.setIfInBounds_toArray, List.set_cons_zero, List.set_cons_succ, i64_w, i32_w]
              rfl
            refine pure_ (i := 3) (N := some 107) (v := ?_) (a' := ?_) #[true, true, true, true, false, false, false, false, false, false, false, false, false] rfl rfl (by kernel_rfl) (fun _ _ _ h => h) (Or.inl ⟨by rfl, ?_⟩) ?_ ?_
            rotate_left
            · intro w'
              go_simp
              with_reducible rfl
            rotate_left
            · simp only [Act.put, List.setIfInBounds_toArray, List.set_cons_zero, List.set_cons_succ, i64_w, i32_w]
              rfl
            refine take_ (i := 4) (N := some 108) (v := ?_) (a' := ?_) #[true, true, true, true, true, false, false, false, false, false, false, false, false] rfl rfl (by kernel_rfl) (fun _ _ _ h => h) (Or.inl ⟨by rfl, ?_⟩) hHeld ?_ ?_
            rotate_left
            · rintro w' ⟨s0, s1, s2⟩
              go_simp
              with_reducible rfl
            rotate_left
            · simp only [Act.put, List.setIfInBounds_toArray, List.set_cons_zero, List.set_cons_succ, i64_w, i32_w]
              rfl
            refine pure_ (i := 5) (N := some 109) (v := ?_) (a' := ?_) #[true, true, true, true, true, true, false, false, false, false, false, false, false] rfl rfl (by kernel_rfl) (fun _ _ _ h => h) (Or.inl ⟨by rfl, ?_⟩) ?_ ?_
            rotate_left
            · intro w'
              go_simp
              with_reducible rfl
            rotate_left
            · simp only [Act.put, List.setIfInBounds_toArray, List.set_cons_zero, List.set_cons_succ, i64_w, i32_w]
              rfl
            refine pure_ (i := 6) (N := some 110) (v := ?_) (a' := ?_) #[true, true, true, true, true, true, true, false, false, false, false, false, false] rfl rfl (by kernel_rfl) (fun _ _ _ h => h) (Or.inl ⟨by rfl, ?_⟩) ?_ ?_
            rotate_left
            · intro w'
              go_simp
              with_reducible rfl
            rotate_left
            · simp only [Act.put, List.setIfInBounds_toArray, List.set_cons_zero, List.set_cons_succ, i64_w, i32_w]
              rfl
            refine take_ (i := 7) (N := some 111) (v := ?_) (a' := ?_) #[true, true, true, true, true, true, true, true, false, false, false, false, false] rfl rfl (by kernel_rfl) (fun _ _ _ h => h) (Or.inl ⟨by rfl, ?_⟩) hHeld ?_ ?_
            rotate_left
            · rintro w' ⟨s0, s1, s2⟩
              go_simp
              with_reducible rfl
            rotate_left
            · simp only [Act.put, List.setIfInBounds_toArray, List.set_cons_zero, List.set_cons_succ, i64_w, i32_w]
              rfl
            refine pure_ (i := 8) (N := some 112) (v := ?_) (a' := ?_) #[true, true, true, true, true, true, true, true, true, false, false, false, false] rfl rfl (by kernel_rfl) (fun _ _ _ h => h) (Or.inl ⟨by rfl, ?_⟩) ?_ ?_
            rotate_left
            · intro w'
              go_simp
              with_reducible rfl
            rotate_left
            · simp only [Act.put, List.setIfInBounds_toArray, List.set_cons_zero, List.set_cons_succ, i64_w, i32_w]
              rfl
            refine pure_ (i := 9) (N := some 113) (v := ?_) (a' := ?_) #[true, true, true, true, true, true, true, true, true, true, false, false, false] rfl rfl (by kernel_rfl) (fun _ _ _ h => h) (Or.inl ⟨by rfl, ?_⟩) ?_ ?_
            rotate_left
            · intro w'
              go_simp
              with_reducible rfl
            rotate_left
            · simp only [Act.put, List.setIfInBounds_toArray, List.set_cons_zero, List.set_cons_succ, i64_w, i32_w]
              rfl
            refine take_ (i := 10) (N := some 114) (v := ?_) (a' := ?_) #[true, true, true, true, true, true, true, true, true, true, true, false, false] rfl rfl (by kernel_rfl) (fun _ _ _ h => h) (Or.inl ⟨by rfl, ?_⟩) hHeld ?_ ?_
            rotate_left
            · rintro w' ⟨s0, s1, s2⟩
              go_simp
              with_reducible rfl
            rotate_left
            · simp only [Act.put, List.setIfInBounds_toArray, List.set_cons_zero, List.set_cons_succ, i64_w, i32_w]
              rfl
            refine one_ (i := 11) (N := some 115) #[true, true, true, true, true, true, true, true, true, true, true, true, false] rfl rfl (by kernel_rfl) (by decide) (fun K hK => ?_)
            refine goes_ Tryd.func78 (by kernel_rfl) rfl #[.pointer (some ⟨g, 0, none⟩), .int .u64 fr] (by rfl) rfl rfl (by simp only [List.map_toArray, List.map_cons, List.map_nil]; rfl) ?_
            refine HCall.out.mono ?_
            rintro e w3 ⟨rfl, rfl⟩
            refine ⟨_, rfl, ?_⟩
            refine hK.out _ _ ⟨s8, blk_cell HMd.out.hr 1, blk_cell HMd.out.hr 3⟩ (fun hHeld => ?_)
            clear hK K
            refine norm_ (a' := ?_) ?_ ?_
            rotate_left
            · show Act.put _ (some 115) _ = _
              simp only [Act.put, List.setIfInBounds_toArray, List.set_cons_zero, List.set_cons_succ, i64_w, i32_w]
              rfl
            refine pure_ (i := 12) (N := some 116) (v := ?_) (a' := ?_) #[true, true, true, true, true, true, true, true, true, true, true, true, true] rfl rfl (by kernel_rfl) (fun _ _ _ h => h) (Or.inl ⟨by rfl, ?_⟩) ?_ ?_
            rotate_left
            · intro w'
              go_simp
              with_reducible rfl
            rotate_left
            · simp only [Act.put, List.setIfInBounds_toArray, List.set_cons_zero, List.set_cons_succ, i64_w, i32_w]
              rfl
            refine done_ (by kernel_rfl) ?_
            have z11 : w.frozen? ⟨g, 11, none⟩ = false := blk_frozen HB1.out 11
            go_wp2_with fail
            have HM1 := Lib.hid (midr_set (w' := ((w.alloc (.cells #[.int .i64 2, .int .u64 fr, .int .u8 ow, .int .u8 a0, .int .u8 a1, .int .u64 sg, .int .u64 fi, .int .u64 ep, .int .u8 pl] 55)).drewN (nq + 1))) HMd.out h3 hg 11 (.int .u64 (x.count + 1)))
            clear c11 z11 s8 hHeld
            generalize (((w.alloc (.cells #[.int .i64 2, .int .u64 fr, .int .u8 ow, .int .u8 a0, .int .u8 a1, .int .u64 sg, .int .u64 fi, .int .u64 ep, .int .u8 pl] 55)).drewN (nq + 1))).setCell ⟨g, 11, none⟩ (.int .u64 (x.count + 1)) = w1 at HM1 ⊢
            clear HMd
            have HMd := Lib.hid (show MidR w base g _ (⟨2, fr, ow, a0, a1, sg, fi, ep, pl⟩ : Rec) F w1.drew x.l (.slice Al x.l.length cl) from ⟨HM1.out.hg, HM1.out.hr, HM1.out.ql, HM1.out.kept, ⟨HM1.out.below.os, HM1.out.below.tape, HM1.out.below.output, HM1.out.below.size, HM1.out.below.block⟩, HM1.out.al⟩)
            refine start_ (n := 11) (S := (fun w' => w'.cell? ⟨g, 10, none⟩ = some (.slice Al x.l.length cl) ∧ w'.cell? ⟨w.heap.size, 0, none⟩ = some (.int .i64 2) ∧ w'.cell? ⟨w.heap.size, 1, none⟩ = some (.int .u64 fr) ∧ w'.cell? ⟨w.heap.size, 2, none⟩ = some (.int .u8 ow) ∧ w'.cell? ⟨w.heap.size, 3, none⟩ = some (.int .u8 a0) ∧ w'.cell? ⟨w.heap.size, 4, none⟩ = some (.int .u8 a1) ∧ w'.cell? ⟨w.heap.size, 5, none⟩ = some (.int .u64 sg) ∧ w'.cell? ⟨w.heap.size, 6, none⟩ = some (.int .u64 fi) ∧ w'.cell? ⟨w.heap.size, 7, none⟩ = some (.int .u64 ep) ∧ w'.cell? ⟨w.heap.size, 8, none⟩ = some (.int .u8 pl))) (ds := [10]) #[false, false, false, false, false, false, false, false, false, false, false] (by kernel_rfl) rfl rfl ⟨blk_cell (HMd.out).hg 10, blk_cell (HMd.out).hr 0, blk_cell (HMd.out).hr 1, blk_cell (HMd.out).hr 2, blk_cell (HMd.out).hr 3, blk_cell (HMd.out).hr 4, blk_cell (HMd.out).hr 5, blk_cell (HMd.out).hr 6, blk_cell (HMd.out).hr 7, blk_cell (HMd.out).hr 8⟩ (fun hHeld => ?_)
            generalize w1.drew = wd at HMd hHeld ⊢
            refine pure_ (i := 0) (N := some 124) (v := ?_) (a' := ?_) #[true, false, false, false, false, false, false, false, false, false, false] rfl rfl (by kernel_rfl) (fun _ _ _ h => h) (Or.inl ⟨by rfl, ?_⟩) ?_ ?_
            rotate_left
            · intro w'
              go_simp
              with_reducible rfl
            rotate_left
            · simp only [Act.put, List.setIfInBounds_toArray, List.set_cons_zero, List.set_cons_succ, i64_w, i32_w]
              rfl
            refine pure_ (i := 1) (N := some 125) (v := ?_) (a' := ?_) #[true, true, false, false, false, false, false, false, false, false, false] rfl rfl (by kernel_rfl) (fun _ _ _ h => h) (Or.inl ⟨by rfl, ?_⟩) ?_ ?_
            rotate_left
            · intro w'
              go_simp
              with_reducible rfl
            rotate_left
            · simp only [Act.put, List.setIfInBounds_toArray, List.set_cons_zero, List.set_cons_succ, i64_w, i32_w]
              rfl
            refine pure_ (i := 2) (N := some 126) (v := ?_) (a' := ?_) #[true, true, true, false, false, false, false, false, false, false, false] rfl rfl (by kernel_rfl) (fun _ _ _ h => h) (Or.inl ⟨by rfl, ?_⟩) ?_ ?_
            rotate_left
            · intro w'
              go_simp
              with_reducible rfl
            rotate_left
            · simp only [Act.put, List.setIfInBounds_toArray, List.set_cons_zero, List.set_cons_succ, i64_w, i32_w]
              rfl
            refine pure_ (i := 3) (N := some 127) (v := ?_) (a' := ?_) #[true, true, true, true, false, false, false, false, false, false, false] rfl rfl (by kernel_rfl) (fun _ _ _ h => h) (Or.inl ⟨by rfl, ?_⟩) ?_ ?_
            rotate_left
            · intro w'
              go_simp
              with_reducible rfl
            rotate_left
            · simp only [Act.put, List.setIfInBounds_toArray, List.set_cons_zero, List.set_cons_succ, i64_w, i32_w]
              rfl
            refine take_ (i := 4) (N := some 128) (v := ?_) (a' := ?_) #[true, true, true, true, true, false, false, false, false, false, false] rfl rfl (by kernel_rfl) (fun _ _ _ h => h) (Or.inl ⟨by rfl, ?_⟩) hHeld ?_ ?_
            rotate_left
            · rintro w' ⟨s0, s1, s2, s3, s4, s5, s6, s7, s8, s9⟩
              go_simp
              with_reducible rfl
            rotate_left
            · simp only [Act.put, List.setIfInBounds_toArray, List.set_cons_zero, List.set_cons_succ, i64_w, i32_w]
              rfl
            refine take_ (i := 5) (N := some 129) (v := ?_) (a' := ?_) #[true, true, true, true, true, true, false, false, false, false, false] rfl rfl (by kernel_rfl) (fun _ _ _ h => h) (Or.inl ⟨by rfl, ?_⟩) hHeld ?_ ?_
            rotate_left
            · rintro w' ⟨s0, s1, s2, s3, s4, s5, s6, s7, s8, s9⟩
              go_simp
              with_reducible rfl
            rotate_left
            · simp only [Act.put, List.setIfInBounds_toArray, List.set_cons_zero, List.set_cons_succ, i64_w, i32_w]
              rfl
            refine one_ (i := 6) (N := some 130) #[true, true, true, true, true, true, true, false, false, false, false] rfl rfl (by kernel_rfl) (by decide) (fun K hK => ?_)
            refine value_ (w1 := ?_) (v := ?_) (by rfl) rfl ?_ ?_
            rotate_left 2
            · go_simp
              constructor
              · rfl
              · rfl
            refine hK.out _ _ ⟨blk_cell (midr_alloc (HMd.out) hbw _).hg 10, blk_cell (midr_alloc (HMd.out) hbw _).hr 0, blk_cell (midr_alloc (HMd.out) hbw _).hr 1, blk_cell (midr_alloc (HMd.out) hbw _).hr 2, blk_cell (midr_alloc (HMd.out) hbw _).hr 3, blk_cell (midr_alloc (HMd.out) hbw _).hr 4, blk_cell (midr_alloc (HMd.out) hbw _).hr 5, blk_cell (midr_alloc (HMd.out) hbw _).hr 6, blk_cell (midr_alloc (HMd.out) hbw _).hr 7, blk_cell (midr_alloc (HMd.out) hbw _).hr 8⟩ (fun hHeld => ?_)
            clear hK K
            refine norm_ (a' := ?_) ?_ ?_
            rotate_left
            · show Act.put _ (some 130) _ = _
              simp only [Act.put, List.setIfInBounds_toArray, List.set_cons_zero, List.set_cons_succ, i64_w, i32_w]
              rfl
            refine one_ (i := 7) (N := some 131) #[true, true, true, true, true, true, true, true, false, false, false] rfl rfl (by kernel_rfl) (by decide) (fun K hK => ?_)
            refine q_app_step base (by rfl) (.tmp 128) (.tmp 130) 56 55 Rec.zero.val 9 56 (by rfl) Tryd.underlying56 info55b rfl (by decide) (by decide) (.slice Al x.l.length cl) x.l.length (flatR x.l) ⟨wd.heap.size, 0, none⟩ 1 1 (⟨2, fr, ow, a0, a1, sg, fi, ep, pl⟩ : Rec).cells.toList (by rfl) (by rfl) (by decide) rfl ?hn (by intro u hu; exact (Array.all_eq_true_iff_forall_mem.1 (⟨2, fr, ow, a0, a1, sg, fi, ep, pl⟩ : Rec).ones) u (by simpa using hu)) ?hq ?hbase (by omega) ?_
            case hn => exact news_blk (heap_alloc_new wd _)
            case hq => exact (midr_alloc (HMd.out) hbw _).ql
            case hbase => exact midr_base (midr_alloc (HMd.out) hbw _) hbw
            intro v_ w3 hq hgr hat
            obtain ⟨AL, cL, hv_, _⟩ := q_slice hq
            subst hv_
            have HM3 := Lib.hid (midr_app (midr_alloc (HMd.out) hbw _) hvl hbw (⟨2, fr, ow, a0, a1, sg, fi, ep, pl⟩ : Rec) hq hgr hat)
            clear hq hgr hat
            refine hK.out _ _ ⟨blk_cell (HM3.out).hg 10, blk_cell (HM3.out).hr 0, blk_cell (HM3.out).hr 1, blk_cell (HM3.out).hr 2, blk_cell (HM3.out).hr 3, blk_cell (HM3.out).hr 4, blk_cell (HM3.out).hr 5, blk_cell (HM3.out).hr 6, blk_cell (HM3.out).hr 7, blk_cell (HM3.out).hr 8⟩ (fun hHeld => ?_)
            clear hK K
            refine norm_ (a' := ?_) ?_ ?_
            rotate_left
            · show Act.put _ (some 131) _ = _
              simp only [Act.put, List.setIfInBounds_toArray, List.set_cons_zero, List.set_cons_succ, i64_w, i32_w]
              rfl
            refine pure_ (i := 8) (N := some 132) (v := ?_) (a' := ?_) #[true, true, true, true, true, true, true, true, true, false, false] rfl rfl (by kernel_rfl) (fun _ _ _ h => h) (Or.inl ⟨by rfl, ?_⟩) ?_ ?_
            rotate_left
            · intro w'
              go_simp
              with_reducible rfl
            rotate_left
            · simp only [Act.put, List.setIfInBounds_toArray, List.set_cons_zero, List.set_cons_succ, i64_w, i32_w]
              rfl
            refine pure_ (i := 9) (N := some 133) (v := ?_) (a' := ?_) #[true, true, true, true, true, true, true, true, true, true, false] rfl rfl (by kernel_rfl) (fun _ _ _ h => h) (Or.inl ⟨by rfl, ?_⟩) ?_ ?_
            rotate_left
            · intro w'
              go_simp
              with_reducible rfl
            rotate_left
            · simp only [Act.put, List.setIfInBounds_toArray, List.set_cons_zero, List.set_cons_succ, i64_w, i32_w]
              rfl
            refine last_ (i := 10) (N := none) #[true, true, true, true, true, true, true, true, true, true, true] rfl rfl (by kernel_rfl) (by decide) (fun K hK => ?_)
            have t10 : w3.cell? ⟨g, 10, none⟩ = some (.slice Al x.l.length cl) := blk_cell HM3.out.hg 10
            have z10 := blk_frozen HM3.out.hg 10
            refine skip_ (w1 := ?_) (by rfl) rfl ?_ ?_
            rotate_left
            · go_simp
              rfl
            refine hK.out _ _ ?_
            clear hK K
            refine done_ (by kernel_rfl) ?_
            go_wp2
            go_ret
            rw [HS.out]
            refine ⟨rfl, midr_end HM3.out h3 h5 (x' := { x with count := x.count + 1, owned := os, l := x.l ++ [(⟨2, fr, ow, a0, a1, sg, fi, ep, pl⟩ : Rec)] }) ((blk_set HM3.out.hg 10 _).trans ?_) ?_ ?_ rfl⟩
            · simp [rsCells, hol]; omega
            · exact Kept.setCell (S := fun i => i = g) (Kept.refl _ _) (Or.inl rfl) _
            · exact (Below.refl base _).setCell hg.1 _
          · have dpo : (a1 != o) = false := by rw [hp] at hpo; simpa [Rec.pair] using hpo
            clear hpo
            go_enter Tryd.func54, Tryd.ntmps54
            go_wp2_with fail
            go_quiet (fail)
            go_wp2_with fail
            have hvl : ∀ k, (Value.slice Al x.l.length cl).ownBlock = some k → F k ∧ k < w.heap.size := fun k e => ⟨h4 k e, (h5 k (h4 k e)).2⟩
            have HMd := Lib.hid (show MidR w base g _ (⟨2, fr, ow, a0, a1, sg, fi, ep, pl⟩ : Rec) F ((w.alloc (.cells #[.int .i64 2, .int .u64 fr, .int .u8 ow, .int .u8 a0, .int .u8 a1, .int .u64 sg, .int .u64 fi, .int .u64 ep, .int .u8 pl] 55)).drewN nq).drew x.l (.slice Al x.l.length cl) from
              ⟨blk_alloc HB1.out _, heap_alloc_new w _, q_alloc H2.out _, (((Kept.refl w _).alloc _).drewN _).drewN 1, pw_below_drewN (pw_below_drewN ((Below.refl base w).alloc hbw _) _) 1, fun k e => Or.inl (hvl k e)⟩)
            have HCall := Lib.hid (HIn.out ((w.alloc (.cells #[.int .i64 2, .int .u64 fr, .int .u8 ow, .int .u8 a0, .int .u8 a1, .int .u64 sg, .int .u64 fi, .int .u64 ep, .int .u8 pl] 55)).drewN nq).drew (rs_kept HI.out (((Kept.refl w _).alloc _).drewN nq |>.drewN 1)))
            clear c9 c12 dfe HD0
            have s8 : ((w.alloc (.cells #[.int .i64 2, .int .u64 fr, .int .u8 ow, .int .u8 a0, .int .u8 a1, .int .u64 sg, .int .u64 fi, .int .u64 ep, .int .u8 pl] 55)).drewN nq).drew.cell? ⟨g, 8, none⟩ = some (.int .u8 1) := (blk_cell HMd.out.hg 8).trans (show some (Value.int .u8 x.head.player) = _ by rw [hp])
            refine start_ (n := 13) (S := (fun w' => w'.cell? ⟨g, 8, none⟩ = some (.int .u8 1) ∧ w'.cell? ⟨w.heap.size, 1, none⟩ = some (.int .u64 fr) ∧ w'.cell? ⟨w.heap.size, 4, none⟩ = some (.int .u8 a1))) (ds := []) #[false, false, false, false, false, false, false, false, false, false, false, false, false] (by kernel_rfl) rfl rfl ⟨s8, blk_cell HMd.out.hr 1, blk_cell HMd.out.hr 4⟩ (fun hHeld => ?_)
            refine pure_ (i := 0) (N := some 104) (v := ?_) (a' := ?_) #[true, false, false, false, false, false, false, false, false, false, false, false, false] rfl rfl (by kernel_rfl) (fun _ _ _ h => h) (Or.inl ⟨by rfl, ?_⟩) ?_ ?_
            rotate_left
            · intro w'
              go_simp
              with_reducible rfl
            rotate_left
            · simp only [Act.put, List.setIfInBounds_toArray, List.set_cons_zero, List.set_cons_succ, i64_w, i32_w]
              rfl
            refine pure_ (i := 1) (N := some 105) (v := ?_) (a' := ?_) #[true, true, false, false, false, false, false, false, false, false, false, false, false] rfl rfl (by kernel_rfl) (fun _ _ _ h => h) (Or.inl ⟨by rfl, ?_⟩) ?_ ?_
            rotate_left
            · intro w'
              go_simp
              with_reducible rfl
            rotate_left
            · simp only [Act.put, List.setIfInBounds_toArray, List.set_cons_zero, List.set_cons_succ, i64_w, i32_w]
              rfl
            refine pure_ (i := 2) (N := some 106) (v := ?_) (a' := ?_) #[true, true, true, false, false, false, false, false, false, false, false, false, false] rfl rfl (by kernel_rfl) (fun _ _ _ h => h) (Or.inl ⟨by rfl, ?_⟩) ?_ ?_
            rotate_left
            · intro w'
              go_simp
              with_reducible rfl
            rotate_left
            · simp only [Act.put, List.setIfInBounds_toArray, List.set_cons_zero, List.set_cons_succ, i64_w, i32_w]
              rfl
            refine pure_ (i := 3) (N := some 107) (v := ?_) (a' := ?_) #[true, true, true, true, false, false, false, false, false, false, false, false, false] rfl rfl (by kernel_rfl) (fun _ _ _ h => h) (Or.inl ⟨by rfl, ?_⟩) ?_ ?_
            rotate_left
            · intro w'
              go_simp
              with_reducible rfl
            rotate_left
            · simp only [Act.put, List.setIfInBounds_toArray, List.set_cons_zero, List.set_cons_succ, i64_w, i32_w]
              rfl
            refine take_ (i := 4) (N := some 108) (v := ?_) (a' := ?_) #[true, true, true, true, true, false, false, false, false, false, false, false, false] rfl rfl (by kernel_rfl) (fun _ _ _ h => h) (Or.inl ⟨by rfl, ?_⟩) hHeld ?_ ?_
            rotate_left
            · rintro w' ⟨s0, s1, s2⟩
              go_simp
              with_reducible rfl
            rotate_left
            · simp only [Act.put, List.setIfInBounds_toArray, List.set_cons_zero, List.set_cons_succ, i64_w, i32_w]
              rfl
            refine pure_ (i := 5) (N := some 109) (v := ?_) (a' := ?_) #[true, true, true, true, true, true, false, false, false, false, false, false, false] rfl rfl (by kernel_rfl) (fun _ _ _ h => h) (Or.inl ⟨by rfl, ?_⟩) ?_ ?_
            rotate_left
            · intro w'
              go_simp
              with_reducible rfl
            rotate_left
            · simp only [Act.put, List.setIfInBounds_toArray, List.set_cons_zero, List.set_cons_succ, i64_w, i32_w]
              rfl
            refine pure_ (i := 6) (N := some 110) (v := ?_) (a' := ?_) #[true, true, true, true, true, true, true, false, false, false, false, false, false] rfl rfl (by kernel_rfl) (fun _ _ _ h => h) (Or.inl ⟨by rfl, ?_⟩) ?_ ?_
            rotate_left
            · intro w'
              go_simp
              with_reducible rfl
            rotate_left
            · simp only [Act.put, List.setIfInBounds_toArray, List.set_cons_zero, List.set_cons_succ, i64_w, i32_w]
              rfl
            refine take_ (i := 7) (N := some 111) (v := ?_) (a' := ?_) #[true, true, true, true, true, true, true, true, false, false, false, false, false] rfl rfl (by kernel_rfl) (fun _ _ _ h => h) (Or.inl ⟨by rfl, ?_⟩) hHeld ?_ ?_
            rotate_left
            · rintro w' ⟨s0, s1, s2⟩
              go_simp
              with_reducible rfl
            rotate_left
            · simp only [Act.put, List.setIfInBounds_toArray, List.set_cons_zero, List.set_cons_succ, i64_w, i32_w]
              rfl
            refine pure_ (i := 8) (N := some 112) (v := ?_) (a' := ?_) #[true, true, true, true, true, true, true, true, true, false, false, false, false] rfl rfl (by kernel_rfl) (fun _ _ _ h => h) (Or.inl ⟨by rfl, ?_⟩) ?_ ?_
            rotate_left
            · intro w'
              go_simp
              with_reducible rfl
            rotate_left
            · simp only [Act.put, List.setIfInBounds_toArray, List.set_cons_zero, List.set_cons_succ, i64_w, i32_w]
              rfl
            refine pure_ (i := 9) (N := some 113) (v := ?_) (a' := ?_) #[true, true, true, true, true, true, true, true, true, true, false, false, false] rfl rfl (by kernel_rfl) (fun _ _ _ h => h) (Or.inl ⟨by rfl, ?_⟩) ?_ ?_
            rotate_left
            · intro w'
              go_simp
              with_reducible rfl
            rotate_left
            · simp only [Act.put, List.setIfInBounds_toArray, List.set_cons_zero, List.set_cons_succ, i64_w, i32_w]
              rfl
            refine take_ (i := 10) (N := some 114) (v := ?_) (a' := ?_) #[true, true, true, true, true, true, true, true, true, true, true, false, false] rfl rfl (by kernel_rfl) (fun _ _ _ h => h) (Or.inl ⟨by rfl, ?_⟩) hHeld ?_ ?_
            rotate_left
            · rintro w' ⟨s0, s1, s2⟩
              go_simp
              with_reducible rfl
            rotate_left
            · simp only [Act.put, List.setIfInBounds_toArray, List.set_cons_zero, List.set_cons_succ, i64_w, i32_w]
              rfl
            refine one_ (i := 11) (N := some 115) #[true, true, true, true, true, true, true, true, true, true, true, true, false] rfl rfl (by kernel_rfl) (by decide) (fun K hK => ?_)
            refine goes_ Tryd.func78 (by kernel_rfl) rfl #[.pointer (some ⟨g, 0, none⟩), .int .u64 fr] (by rfl) rfl rfl (by simp only [List.map_toArray, List.map_cons, List.map_nil]; rfl) ?_
            refine HCall.out.mono ?_
            rintro e w3 ⟨rfl, rfl⟩
            refine ⟨_, rfl, ?_⟩
            refine hK.out _ _ ⟨s8, blk_cell HMd.out.hr 1, blk_cell HMd.out.hr 4⟩ (fun hHeld => ?_)
            clear hK K
            refine norm_ (a' := ?_) ?_ ?_
            rotate_left
            · show Act.put _ (some 115) _ = _
              simp only [Act.put, List.setIfInBounds_toArray, List.set_cons_zero, List.set_cons_succ, i64_w, i32_w]
              rfl
            refine pure_ (i := 12) (N := some 116) (v := ?_) (a' := ?_) #[true, true, true, true, true, true, true, true, true, true, true, true, true] rfl rfl (by kernel_rfl) (fun _ _ _ h => h) (Or.inl ⟨by rfl, ?_⟩) ?_ ?_
            rotate_left
            · intro w'
              go_simp
              with_reducible rfl
            rotate_left
            · simp only [Act.put, List.setIfInBounds_toArray, List.set_cons_zero, List.set_cons_succ, i64_w, i32_w]
              rfl
            refine done_ (by kernel_rfl) ?_
            have z11 : w.frozen? ⟨g, 11, none⟩ = false := blk_frozen HB1.out 11
            go_wp2_with fail
            have HM1 := Lib.hid (midr_set (w' := ((w.alloc (.cells #[.int .i64 2, .int .u64 fr, .int .u8 ow, .int .u8 a0, .int .u8 a1, .int .u64 sg, .int .u64 fi, .int .u64 ep, .int .u8 pl] 55)).drewN (nq + 1))) HMd.out h3 hg 11 (.int .u64 (x.count + 1)))
            clear c11 z11 s8 hHeld
            generalize (((w.alloc (.cells #[.int .i64 2, .int .u64 fr, .int .u8 ow, .int .u8 a0, .int .u8 a1, .int .u64 sg, .int .u64 fi, .int .u64 ep, .int .u8 pl] 55)).drewN (nq + 1))).setCell ⟨g, 11, none⟩ (.int .u64 (x.count + 1)) = w1 at HM1 ⊢
            clear HMd
            have HMd := Lib.hid (show MidR w base g _ (⟨2, fr, ow, a0, a1, sg, fi, ep, pl⟩ : Rec) F w1.drew x.l (.slice Al x.l.length cl) from ⟨HM1.out.hg, HM1.out.hr, HM1.out.ql, HM1.out.kept, ⟨HM1.out.below.os, HM1.out.below.tape, HM1.out.below.output, HM1.out.below.size, HM1.out.below.block⟩, HM1.out.al⟩)
            refine start_ (n := 11) (S := (fun w' => w'.cell? ⟨g, 10, none⟩ = some (.slice Al x.l.length cl) ∧ w'.cell? ⟨w.heap.size, 0, none⟩ = some (.int .i64 2) ∧ w'.cell? ⟨w.heap.size, 1, none⟩ = some (.int .u64 fr) ∧ w'.cell? ⟨w.heap.size, 2, none⟩ = some (.int .u8 ow) ∧ w'.cell? ⟨w.heap.size, 3, none⟩ = some (.int .u8 a0) ∧ w'.cell? ⟨w.heap.size, 4, none⟩ = some (.int .u8 a1) ∧ w'.cell? ⟨w.heap.size, 5, none⟩ = some (.int .u64 sg) ∧ w'.cell? ⟨w.heap.size, 6, none⟩ = some (.int .u64 fi) ∧ w'.cell? ⟨w.heap.size, 7, none⟩ = some (.int .u64 ep) ∧ w'.cell? ⟨w.heap.size, 8, none⟩ = some (.int .u8 pl))) (ds := [10]) #[false, false, false, false, false, false, false, false, false, false, false] (by kernel_rfl) rfl rfl ⟨blk_cell (HMd.out).hg 10, blk_cell (HMd.out).hr 0, blk_cell (HMd.out).hr 1, blk_cell (HMd.out).hr 2, blk_cell (HMd.out).hr 3, blk_cell (HMd.out).hr 4, blk_cell (HMd.out).hr 5, blk_cell (HMd.out).hr 6, blk_cell (HMd.out).hr 7, blk_cell (HMd.out).hr 8⟩ (fun hHeld => ?_)
            generalize w1.drew = wd at HMd hHeld ⊢
            refine pure_ (i := 0) (N := some 124) (v := ?_) (a' := ?_) #[true, false, false, false, false, false, false, false, false, false, false] rfl rfl (by kernel_rfl) (fun _ _ _ h => h) (Or.inl ⟨by rfl, ?_⟩) ?_ ?_
            rotate_left
            · intro w'
              go_simp
              with_reducible rfl
            rotate_left
            · simp only [Act.put, List.setIfInBounds_toArray, List.set_cons_zero, List.set_cons_succ, i64_w, i32_w]
              rfl
            refine pure_ (i := 1) (N := some 125) (v := ?_) (a' := ?_) #[true, true, false, false, false, false, false, false, false, false, false] rfl rfl (by kernel_rfl) (fun _ _ _ h => h) (Or.inl ⟨by rfl, ?_⟩) ?_ ?_
            rotate_left
            · intro w'
              go_simp
              with_reducible rfl
            rotate_left
            · simp only [Act.put, List.setIfInBounds_toArray, List.set_cons_zero, List.set_cons_succ, i64_w, i32_w]
              rfl
            refine pure_ (i := 2) (N := some 126) (v := ?_) (a' := ?_) #[true, true, true, false, false, false, false, false, false, false, false] rfl rfl (by kernel_rfl) (fun _ _ _ h => h) (Or.inl ⟨by rfl, ?_⟩) ?_ ?_
            rotate_left
            · intro w'
              go_simp
              with_reducible rfl
            rotate_left
            · simp only [Act.put, List.setIfInBounds_toArray, List.set_cons_zero, List.set_cons_succ, i64_w, i32_w]
              rfl
            refine pure_ (i := 3) (N := some 127) (v := ?_) (a' := ?_) #[true, true, true, true, false, false, false, false, false, false, false] rfl rfl (by kernel_rfl) (fun _ _ _ h => h) (Or.inl ⟨by rfl, ?_⟩) ?_ ?_
            rotate_left
            · intro w'
              go_simp
              with_reducible rfl
            rotate_left
            · simp only [Act.put, List.setIfInBounds_toArray, List.set_cons_zero, List.set_cons_succ, i64_w, i32_w]
              rfl
            refine take_ (i := 4) (N := some 128) (v := ?_) (a' := ?_) #[true, true, true, true, true, false, false, false, false, false, false] rfl rfl (by kernel_rfl) (fun _ _ _ h => h) (Or.inl ⟨by rfl, ?_⟩) hHeld ?_ ?_
            rotate_left
            · rintro w' ⟨s0, s1, s2, s3, s4, s5, s6, s7, s8, s9⟩
              go_simp
              with_reducible rfl
            rotate_left
            · simp only [Act.put, List.setIfInBounds_toArray, List.set_cons_zero, List.set_cons_succ, i64_w, i32_w]
              rfl
            refine take_ (i := 5) (N := some 129) (v := ?_) (a' := ?_) #[true, true, true, true, true, true, false, false, false, false, false] rfl rfl (by kernel_rfl) (fun _ _ _ h => h) (Or.inl ⟨by rfl, ?_⟩) hHeld ?_ ?_
            rotate_left
            · rintro w' ⟨s0, s1, s2, s3, s4, s5, s6, s7, s8, s9⟩
              go_simp
              with_reducible rfl
            rotate_left
            · simp only [Act.put, List.setIfInBounds_toArray, List.set_cons_zero, List.set_cons_succ, i64_w, i32_w]
              rfl
            refine one_ (i := 6) (N := some 130) #[true, true, true, true, true, true, true, false, false, false, false] rfl rfl (by kernel_rfl) (by decide) (fun K hK => ?_)
            refine value_ (w1 := ?_) (v := ?_) (by rfl) rfl ?_ ?_
            rotate_left 2
            · go_simp
              constructor
              · rfl
              · rfl
            refine hK.out _ _ ⟨blk_cell (midr_alloc (HMd.out) hbw _).hg 10, blk_cell (midr_alloc (HMd.out) hbw _).hr 0, blk_cell (midr_alloc (HMd.out) hbw _).hr 1, blk_cell (midr_alloc (HMd.out) hbw _).hr 2, blk_cell (midr_alloc (HMd.out) hbw _).hr 3, blk_cell (midr_alloc (HMd.out) hbw _).hr 4, blk_cell (midr_alloc (HMd.out) hbw _).hr 5, blk_cell (midr_alloc (HMd.out) hbw _).hr 6, blk_cell (midr_alloc (HMd.out) hbw _).hr 7, blk_cell (midr_alloc (HMd.out) hbw _).hr 8⟩ (fun hHeld => ?_)
            clear hK K
            refine norm_ (a' := ?_) ?_ ?_
            rotate_left
            · show Act.put _ (some 130) _ = _
              simp only [Act.put, List.setIfInBounds_toArray, List.set_cons_zero, List.set_cons_succ, i64_w, i32_w]
              rfl
            refine one_ (i := 7) (N := some 131) #[true, true, true, true, true, true, true, true, false, false, false] rfl rfl (by kernel_rfl) (by decide) (fun K hK => ?_)
            refine q_app_step base (by rfl) (.tmp 128) (.tmp 130) 56 55 Rec.zero.val 9 56 (by rfl) Tryd.underlying56 info55b rfl (by decide) (by decide) (.slice Al x.l.length cl) x.l.length (flatR x.l) ⟨wd.heap.size, 0, none⟩ 1 1 (⟨2, fr, ow, a0, a1, sg, fi, ep, pl⟩ : Rec).cells.toList (by rfl) (by rfl) (by decide) rfl ?hn (by intro u hu; exact (Array.all_eq_true_iff_forall_mem.1 (⟨2, fr, ow, a0, a1, sg, fi, ep, pl⟩ : Rec).ones) u (by simpa using hu)) ?hq ?hbase (by omega) ?_
            case hn => exact news_blk (heap_alloc_new wd _)
            case hq => exact (midr_alloc (HMd.out) hbw _).ql
            case hbase => exact midr_base (midr_alloc (HMd.out) hbw _) hbw
            intro v_ w3 hq hgr hat
            obtain ⟨AL, cL, hv_, _⟩ := q_slice hq
            subst hv_
            have HM3 := Lib.hid (midr_app (midr_alloc (HMd.out) hbw _) hvl hbw (⟨2, fr, ow, a0, a1, sg, fi, ep, pl⟩ : Rec) hq hgr hat)
            clear hq hgr hat
            refine hK.out _ _ ⟨blk_cell (HM3.out).hg 10, blk_cell (HM3.out).hr 0, blk_cell (HM3.out).hr 1, blk_cell (HM3.out).hr 2, blk_cell (HM3.out).hr 3, blk_cell (HM3.out).hr 4, blk_cell (HM3.out).hr 5, blk_cell (HM3.out).hr 6, blk_cell (HM3.out).hr 7, blk_cell (HM3.out).hr 8⟩ (fun hHeld => ?_)
            clear hK K
            refine norm_ (a' := ?_) ?_ ?_
            rotate_left
            · show Act.put _ (some 131) _ = _
              simp only [Act.put, List.setIfInBounds_toArray, List.set_cons_zero, List.set_cons_succ, i64_w, i32_w]
              rfl
            refine pure_ (i := 8) (N := some 132) (v := ?_) (a' := ?_) #[true, true, true, true, true, true, true, true, true, false, false] rfl rfl (by kernel_rfl) (fun _ _ _ h => h) (Or.inl ⟨by rfl, ?_⟩) ?_ ?_
            rotate_left
            · intro w'
              go_simp
              with_reducible rfl
            rotate_left
            · simp only [Act.put, List.setIfInBounds_toArray, List.set_cons_zero, List.set_cons_succ, i64_w, i32_w]
              rfl
            refine pure_ (i := 9) (N := some 133) (v := ?_) (a' := ?_) #[true, true, true, true, true, true, true, true, true, true, false] rfl rfl (by kernel_rfl) (fun _ _ _ h => h) (Or.inl ⟨by rfl, ?_⟩) ?_ ?_
            rotate_left
            · intro w'
              go_simp
              with_reducible rfl
            rotate_left
            · simp only [Act.put, List.setIfInBounds_toArray, List.set_cons_zero, List.set_cons_succ, i64_w, i32_w]
              rfl
            refine last_ (i := 10) (N := none) #[true, true, true, true, true, true, true, true, true, true, true] rfl rfl (by kernel_rfl) (by decide) (fun K hK => ?_)
            have t10 : w3.cell? ⟨g, 10, none⟩ = some (.slice Al x.l.length cl) := blk_cell HM3.out.hg 10
            have z10 := blk_frozen HM3.out.hg 10
            refine skip_ (w1 := ?_) (by rfl) rfl ?_ ?_
            rotate_left
            · go_simp
              rfl
            refine hK.out _ _ ?_
            clear hK K
            refine done_ (by kernel_rfl) ?_
            go_wp2
            go_ret
            rw [HS.out]
            refine ⟨rfl, midr_end HM3.out h3 h5 (x' := { x with count := x.count + 1, owned := os, l := x.l ++ [(⟨2, fr, ow, a0, a1, sg, fi, ep, pl⟩ : Rec)] }) ((blk_set HM3.out.hg 10 _).trans ?_) ?_ ?_ rfl⟩
            · simp [rsCells, hol]; omega
            · exact Kept.setCell (S := fun i => i = g) (Kept.refl _ _) (Or.inl rfl) _
            · exact (Below.refl base _).setCell hg.1 _
        · have HS := Lib.hid (show sureS x (⟨2, fr, ow, a0, a1, sg, fi, ep, pl⟩ : Rec) = (x, 14) by unfold sureS; rw [hown]; exact (if_pos ⟨hbeg, hfe⟩).trans (if_neg hpo))
          clear hbeg hfe hown hx ht hfr hin hcnt
          rcases hp with hp | hp
          · have dpo : (a0 != o) = true := by rw [hp] at hpo; simpa [Rec.pair] using hpo
            clear hpo
            go_enter Tryd.func54, Tryd.ntmps54
            go_wp2_with fail
            go_quiet (fail)
            go_wp2_with fail
            have hvl : ∀ k, (Value.slice Al x.l.length cl).ownBlock = some k → F k ∧ k < w.heap.size := fun k e => ⟨h4 k e, (h5 k (h4 k e)).2⟩
            have HMd := Lib.hid (show MidR w base g _ (⟨2, fr, ow, a0, a1, sg, fi, ep, pl⟩ : Rec) F ((w.alloc (.cells #[.int .i64 2, .int .u64 fr, .int .u8 ow, .int .u8 a0, .int .u8 a1, .int .u64 sg, .int .u64 fi, .int .u64 ep, .int .u8 pl] 55)).drewN nq).drew x.l (.slice Al x.l.length cl) from
              ⟨blk_alloc HB1.out _, heap_alloc_new w _, q_alloc H2.out _, (((Kept.refl w _).alloc _).drewN _).drewN 1, pw_below_drewN (pw_below_drewN ((Below.refl base w).alloc hbw _) _) 1, fun k e => Or.inl (hvl k e)⟩)
            have HCall := Lib.hid (HIn.out ((w.alloc (.cells #[.int .i64 2, .int .u64 fr, .int .u8 ow, .int .u8 a0, .int .u8 a1, .int .u64 sg, .int .u64 fi, .int .u64 ep, .int .u8 pl] 55)).drewN nq).drew (rs_kept HI.out (((Kept.refl w _).alloc _).drewN nq |>.drewN 1)))
            clear c9 c12 dfe HD0
            have s8 : ((w.alloc (.cells #[.int .i64 2, .int .u64 fr, .int .u8 ow, .int .u8 a0, .int .u8 a1, .int .u64 sg, .int .u64 fi, .int .u64 ep, .int .u8 pl] 55)).drewN nq).drew.cell? ⟨g, 8, none⟩ = some (.int .u8 0) := (blk_cell HMd.out.hg 8).trans (show some (Value.int .u8 x.head.player) = _ by rw [hp])
            refine start_ (n := 13) (S := (fun w' => w'.cell? ⟨g, 8, none⟩ = some (.int .u8 0) ∧ w'.cell? ⟨w.heap.size, 1, none⟩ = some (.int .u64 fr) ∧ w'.cell? ⟨w.heap.size, 3, none⟩ = some (.int .u8 a0))) (ds := []) #[false, false, false, false, false, false, false, false, false, false, false, false, false] (by kernel_rfl) rfl rfl ⟨s8, blk_cell HMd.out.hr 1, blk_cell HMd.out.hr 3⟩ (fun hHeld => ?_)
            refine pure_ (i := 0) (N := some 104) (v := ?_) (a' := ?_) #[true, false, false, false, false, false, false, false, false, false, false, false, false] rfl rfl (by kernel_rfl) (fun _ _ _ h => h) (Or.inl ⟨by rfl, ?_⟩) ?_ ?_
            rotate_left
            · intro w'
              go_simp
              with_reducible rfl
            rotate_left
            · simp only [Act.put, List.setIfInBounds_toArray, List.set_cons_zero, List.set_cons_succ, i64_w, i32_w]
              rfl
            refine pure_ (i := 1) (N := some 105) (v := ?_) (a' := ?_) #[true, true, false, false, false, false, false, false, false, false, false, false, false] rfl rfl (by kernel_rfl) (fun _ _ _ h => h) (Or.inl ⟨by rfl, ?_⟩) ?_ ?_
            rotate_left
            · intro w'
              go_simp
              with_reducible rfl
            rotate_left
            · simp only [Act.put, List.setIfInBounds_toArray, List.set_cons_zero, List.set_cons_succ, i64_w, i32_w]
              rfl
            refine pure_ (i := 2) (N := some 106) (v := ?_) (a' := ?_) #[true, true, true, false, false, false, false, false, false, false, false, false, false] rfl rfl (by kernel_rfl) (fun _ _ _ h => h) (Or.inl ⟨by rfl, ?_⟩) ?_ ?_
            rotate_left
            · intro w'
              go_simp
              with_reducible rfl
            rotate_left
            · simp only [Act.put, List.setIfInBounds_toArray, List.set_cons_zero, List.set_cons_succ, i64_w, i32_w]
              rfl
            refine pure_ (i := 3) (N := some 107) (v := ?_) (a' := ?_) #[true, true, true, true, false, false, false, false, false, false, false, false, false] rfl rfl (by kernel_rfl) (fun _ _ _ h => h) (Or.inl ⟨by rfl, ?_⟩) ?_ ?_
            rotate_left
            · intro w'
              go_simp
              with_reducible rfl
            rotate_left
            · simp only [Act.put, List.setIfInBounds_toArray, List.set_cons_zero, List.set_cons_succ, i64_w, i32_w]
              rfl
            refine take_ (i := 4) (N := some 108) (v := ?_) (a' := ?_) #[true, true, true, true, true, false, false, false, false, false, false, false, false] rfl rfl (by kernel_rfl) (fun _ _ _ h => h) (Or.inl ⟨by rfl, ?_⟩) hHeld ?_ ?_
            rotate_left
            · rintro w' ⟨s0, s1, s2⟩
              go_simp
              with_reducible rfl
            rotate_left
            · simp only [Act.put, List.setIfInBounds_toArray, List.set_cons_zero, List.set_cons_succ, i64_w, i32_w]
              rfl
            refine pure_ (i := 5) (N := some 109) (v := ?_) (a' := ?_) #[true, true, true, true, true, true, false, false, false, false, false, false, false] rfl rfl (by kernel_rfl) (fun _ _ _ h => h) (Or.inl ⟨by rfl, ?_⟩) ?_ ?_
            rotate_left
            · intro w'
              go_simp
              with_reducible rfl
            rotate_left
            · simp only [Act.put, List.setIfInBounds_toArray, List.set_cons_zero, List.set_cons_succ, i64_w, i32_w]
              rfl
            refine pure_ (i := 6) (N := some 110) (v := ?_) (a' := ?_) #[true, true, true, true, true, true, true, false, false, false, false, false, false] rfl rfl (by kernel_rfl) (fun _ _ _ h => h) (Or.inl ⟨by rfl, ?_⟩) ?_ ?_
            rotate_left
            · intro w'
              go_simp
              with_reducible rfl
            rotate_left
            · simp only [Act.put, List.setIfInBounds_toArray, List.set_cons_zero, List.set_cons_succ, i64_w, i32_w]
              rfl
            refine take_ (i := 7) (N := some 111) (v := ?_) (a' := ?_) #[true, true, true, true, true, true, true, true, false, false, false, false, false] rfl rfl (by kernel_rfl) (fun _ _ _ h => h) (Or.inl ⟨by rfl, ?_⟩) hHeld ?_ ?_
            rotate_left
            · rintro w' ⟨s0, s1, s2⟩
              go_simp
              with_reducible rfl
            rotate_left
            · simp only [Act.put, List.setIfInBounds_toArray, List.set_cons_zero, List.set_cons_succ, i64_w, i32_w]
              rfl
            refine pure_ (i := 8) (N := some 112) (v := ?_) (a' := ?_) #[true, true, true, true, true, true, true, true, true, false, false, false, false] rfl rfl (by kernel_rfl) (fun _ _ _ h => h) (Or.inl ⟨by rfl, ?_⟩) ?_ ?_
            rotate_left
            · intro w'
              go_simp
              with_reducible rfl
            rotate_left
            · simp only [Act.put, List.setIfInBounds_toArray, List.set_cons_zero, List.set_cons_succ, i64_w, i32_w]
              rfl
            refine pure_ (i := 9) (N := some 113) (v := ?_) (a' := ?_) #[true, true, true, true, true, true, true, true, true, true, false, false, false] rfl rfl (by kernel_rfl) (fun _ _ _ h => h) (Or.inl ⟨by rfl, ?_⟩) ?_ ?_
            rotate_left
            · intro w'
              go_simp
              with_reducible rfl
            rotate_left
            · simp only [Act.put, List.setIfInBounds_toArray, List.set_cons_zero, List.set_cons_succ, i64_w, i32_w]
              rfl
            refine take_ (i := 10) (N := some 114) (v := ?_) (a' := ?_) #[true, true, true, true, true, true, true, true, true, true, true, false, false] rfl rfl (by kernel_rfl) (fun _ _ _ h => h) (Or.inl ⟨by rfl, ?_⟩) hHeld ?_ ?_
            rotate_left
            · rintro w' ⟨s0, s1, s2⟩
              go_simp
              with_reducible rfl
            rotate_left
            · simp only [Act.put, List.setIfInBounds_toArray, List.set_cons_zero, List.set_cons_succ, i64_w, i32_w]
              rfl
            refine one_ (i := 11) (N := some 115) #[true, true, true, true, true, true, true, true, true, true, true, true, false] rfl rfl (by kernel_rfl) (by decide) (fun K hK => ?_)
            refine goes_ Tryd.func78 (by kernel_rfl) rfl #[.pointer (some ⟨g, 0, none⟩), .int .u64 fr] (by rfl) rfl rfl (by simp only [List.map_toArray, List.map_cons, List.map_nil]; rfl) ?_
            refine HCall.out.mono ?_
            rintro e w3 ⟨rfl, rfl⟩
            refine ⟨_, rfl, ?_⟩
            refine hK.out _ _ ⟨s8, blk_cell HMd.out.hr 1, blk_cell HMd.out.hr 3⟩ (fun hHeld => ?_)
            clear hK K
            refine norm_ (a' := ?_) ?_ ?_
            rotate_left
            · show Act.put _ (some 115) _ = _
              simp only [Act.put, List.setIfInBounds_toArray, List.set_cons_zero, List.set_cons_succ, i64_w, i32_w]
              rfl
            refine pure_ (i := 12) (N := some 116) (v := ?_) (a' := ?_) #[true, true, true, true, true, true, true, true, true, true, true, true, true] rfl rfl (by kernel_rfl) (fun _ _ _ h => h) (Or.inl ⟨by rfl, ?_⟩) ?_ ?_
            rotate_left
            · intro w'
              go_simp
              with_reducible rfl
            rotate_left
            · simp only [Act.put, List.setIfInBounds_toArray, List.set_cons_zero, List.set_cons_succ, i64_w, i32_w]
              rfl
            refine done_ (by kernel_rfl) ?_
            go_wp2_with fail
            go_ret
            rw [HS.out]
            exact ⟨rfl, HDid.out _⟩
          · have dpo : (a1 != o) = true := by rw [hp] at hpo; simpa [Rec.pair] using hpo
            clear hpo
            go_enter Tryd.func54, Tryd.ntmps54
            go_wp2_with fail
            go_quiet (fail)
            go_wp2_with fail
            have hvl : ∀ k, (Value.slice Al x.l.length cl).ownBlock = some k → F k ∧ k < w.heap.size := fun k e => ⟨h4 k e, (h5 k (h4 k e)).2⟩
            have HMd := Lib.hid (show MidR w base g _ (⟨2, fr, ow, a0, a1, sg, fi, ep, pl⟩ : Rec) F ((w.alloc (.cells #[.int .i64 2, .int .u64 fr, .int .u8 ow, .int .u8 a0, .int .u8 a1, .int .u64 sg, .int .u64 fi, .int .u64 ep, .int .u8 pl] 55)).drewN nq).drew x.l (.slice Al x.l.length cl) from
              ⟨blk_alloc HB1.out _, heap_alloc_new w _, q_alloc H2.out _, (((Kept.refl w _).alloc _).drewN _).drewN 1, pw_below_drewN (pw_below_drewN ((Below.refl base w).alloc hbw _) _) 1, fun k e => Or.inl (hvl k e)⟩)
            have HCall := Lib.hid (HIn.out ((w.alloc (.cells #[.int .i64 2, .int .u64 fr, .int .u8 ow, .int .u8 a0, .int .u8 a1, .int .u64 sg, .int .u64 fi, .int .u64 ep, .int .u8 pl] 55)).drewN nq).drew (rs_kept HI.out (((Kept.refl w _).alloc _).drewN nq |>.drewN 1)))
            clear c9 c12 dfe HD0
            have s8 : ((w.alloc (.cells #[.int .i64 2, .int .u64 fr, .int .u8 ow, .int .u8 a0, .int .u8 a1, .int .u64 sg, .int .u64 fi, .int .u64 ep, .int .u8 pl] 55)).drewN nq).drew.cell? ⟨g, 8, none⟩ = some (.int .u8 1) := (blk_cell HMd.out.hg 8).trans (show some (Value.int .u8 x.head.player) = _ by rw [hp])
            refine start_ (n := 13) (S := (fun w' => w'.cell? ⟨g, 8, none⟩ = some (.int .u8 1) ∧ w'.cell? ⟨w.heap.size, 1, none⟩ = some (.int .u64 fr) ∧ w'.cell? ⟨w.heap.size, 4, none⟩ = some (.int .u8 a1))) (ds := []) #[false, false, false, false, false, false, false, false, false, false, false, false, false] (by kernel_rfl) rfl rfl ⟨s8, blk_cell HMd.out.hr 1, blk_cell HMd.out.hr 4⟩ (fun hHeld => ?_)
            refine pure_ (i := 0) (N := some 104) (v := ?_) (a' := ?_) #[true, false, false, false, false, false, false, false, false, false, false, false, false] rfl rfl (by kernel_rfl) (fun _ _ _ h => h) (Or.inl ⟨by rfl, ?_⟩) ?_ ?_
            rotate_left
            · intro w'
              go_simp
              with_reducible rfl
            rotate_left
            · simp only [Act.put, List.setIfInBounds_toArray, List.set_cons_zero, List.set_cons_succ, i64_w, i32_w]
              rfl
            refine pure_ (i := 1) (N := some 105) (v := ?_) (a' := ?_) #[true, true, false, false, false, false, false, false, false, false, false, false, false] rfl rfl (by kernel_rfl) (fun _ _ _ h => h) (Or.inl ⟨by rfl, ?_⟩) ?_ ?_
            rotate_left
            · intro w'
              go_simp
              with_reducible rfl
            rotate_left
            · simp only [Act.put, List.setIfInBounds_toArray, List.set_cons_zero, List.set_cons_succ, i64_w, i32_w]
              rfl
            refine pure_ (i := 2) (N := some 106) (v := ?_) (a' := ?_) #[true, true, true, false, false, false, false, false, false, false, false, false, false] rfl rfl (by kernel_rfl) (fun _ _ _ h => h) (Or.inl ⟨by rfl, ?_⟩) ?_ ?_
            rotate_left
            · intro w'
              go_simp
              with_reducible rfl
            rotate_left
            · simp only [Act.put, List.setIfInBounds_toArray, List.set_cons_zero, List.set_cons_succ, i64_w, i32_w]
              rfl
            refine pure_ (i := 3) (N := some 107) (v := ?_) (a' := ?_) #[true, true, true, true, false, false, false, false, false, false, false, false, false] rfl rfl (by kernel_rfl) (fun _ _ _ h => h) (Or.inl ⟨by rfl, ?_⟩) ?_ ?_
            rotate_left
            · intro w'
              go_simp
              with_reducible rfl
            rotate_left
            · simp only [Act.put, List.setIfInBounds_toArray, List.set_cons_zero, List.set_cons_succ, i64_w, i32_w]
              rfl
            refine take_ (i := 4) (N := some 108) (v := ?_) (a' := ?_) #[true, true, true, true, true, false, false, false, false, false, false, false, false] rfl rfl (by kernel_rfl) (fun _ _ _ h => h) (Or.inl ⟨by rfl, ?_⟩) hHeld ?_ ?_
            rotate_left
            · rintro w' ⟨s0, s1, s2⟩
              go_simp
              with_reducible rfl
            rotate_left
            · simp only [Act.put, List.setIfInBounds_toArray, List.set_cons_zero, List.set_cons_succ, i64_w, i32_w]
              rfl
            refine pure_ (i := 5) (N := some 109) (v := ?_) (a' := ?_) #[true, true, true, true, true, true, false, false, false, false, false, false, false] rfl rfl (by kernel_rfl) (fun _ _ _ h => h) (Or.inl ⟨by rfl, ?_⟩) ?_ ?_
            rotate_left
            · intro w'
              go_simp
              with_reducible rfl
            rotate_left
            · simp only [Act.put, List.setIfInBounds_toArray, List.set_cons_zero, List.set_cons_succ, i64_w, i32_w]
              rfl
            refine pure_ (i := 6) (N := some 110) (v := ?_) (a' := ?_) #[true, true, true, true, true, true, true, false, false, false, false, false, false] rfl rfl (by kernel_rfl) (fun _ _ _ h => h) (Or.inl ⟨by rfl, ?_⟩) ?_ ?_
            rotate_left
            · intro w'
              go_simp
              with_reducible rfl
            rotate_left
            · simp only [Act.put, List.setIfInBounds_toArray, List.set_cons_zero, List.set_cons_succ, i64_w, i32_w]
              rfl
            refine take_ (i := 7) (N := some 111) (v := ?_) (a' := ?_) #[true, true, true, true, true, true, true, true, false, false, false, false, false] rfl rfl (by kernel_rfl) (fun _ _ _ h => h) (Or.inl ⟨by rfl, ?_⟩) hHeld ?_ ?_
            rotate_left
            · rintro w' ⟨s0, s1, s2⟩
              go_simp
              with_reducible rfl
            rotate_left
            · simp only [Act.put, List.setIfInBounds_toArray, List.set_cons_zero, List.set_cons_succ, i64_w, i32_w]
              rfl
            refine pure_ (i := 8) (N := some 112) (v := ?_) (a' := ?_) #[true, true, true, true, true, true, true, true, true, false, false, false, false] rfl rfl (by kernel_rfl) (fun _ _ _ h => h) (Or.inl ⟨by rfl, ?_⟩) ?_ ?_
            rotate_left
            · intro w'
              go_simp
              with_reducible rfl
            rotate_left
            · simp only [Act.put, List.setIfInBounds_toArray, List.set_cons_zero, List.set_cons_succ, i64_w, i32_w]
              rfl
            refine pure_ (i := 9) (N := some 113) (v := ?_) (a' := ?_) #[true, true, true, true, true, true, true, true, true, true, false, false, false] rfl rfl (by kernel_rfl) (fun _ _ _ h => h) (Or.inl ⟨by rfl, ?_⟩) ?_ ?_
            rotate_left
            · intro w'
              go_simp
              with_reducible rfl
            rotate_left
            · simp only [Act.put, List.setIfInBounds_toArray, List.set_cons_zero, List.set_cons_succ, i64_w, i32_w]
              rfl
            refine take_ (i := 10) (N := some 114) (v := ?_) (a' := ?_) #[true, true, true, true, true, true, true, true, true, true, true, false, false] rfl rfl (by kernel_rfl) (fun _ _ _ h => h) (Or.inl ⟨by rfl, ?_⟩) hHeld ?_ ?_
            rotate_left
            · rintro w' ⟨s0, s1, s2⟩
              go_simp
              with_reducible rfl
            rotate_left
            · simp only [Act.put, List.setIfInBounds_toArray, List.set_cons_zero, List.set_cons_succ, i64_w, i32_w]
              rfl
            refine one_ (i := 11) (N := some 115) #[true, true, true, true, true, true, true, true, true, true, true, true, false] rfl rfl (by kernel_rfl) (by decide) (fun K hK => ?_)
            refine goes_ Tryd.func78 (by kernel_rfl) rfl #[.pointer (some ⟨g, 0, none⟩), .int .u64 fr] (by rfl) rfl rfl (by simp only [List.map_toArray, List.map_cons, List.map_nil]; rfl) ?_
            refine HCall.out.mono ?_
            rintro e w3 ⟨rfl, rfl⟩
            refine ⟨_, rfl, ?_⟩
            refine hK.out _ _ ⟨s8, blk_cell HMd.out.hr 1, blk_cell HMd.out.hr 4⟩ (fun hHeld => ?_)
            clear hK K
            refine norm_ (a' := ?_) ?_ ?_
            rotate_left
            · show Act.put _ (some 115) _ = _
              simp only [Act.put, List.setIfInBounds_toArray, List.set_cons_zero, List.set_cons_succ, i64_w, i32_w]
              rfl
            refine pure_ (i := 12) (N := some 116) (v := ?_) (a' := ?_) #[true, true, true, true, true, true, true, true, true, true, true, true, true] rfl rfl (by kernel_rfl) (fun _ _ _ h => h) (Or.inl ⟨by rfl, ?_⟩) ?_ ?_
            rotate_left
            · intro w'
              go_simp
              with_reducible rfl
            rotate_left
            · simp only [Act.put, List.setIfInBounds_toArray, List.set_cons_zero, List.set_cons_succ, i64_w, i32_w]
              rfl
            refine done_ (by kernel_rfl) ?_
            go_wp2_with fail
            go_ret
            rw [HS.out]
            exact ⟨rfl, HDid.out _⟩
    · have dfe : (fr != x.count) = true := by simp [hfe]
      have HS := Lib.hid (show sureS x (⟨2, fr, ow, a0, a1, sg, fi, ep, pl⟩ : Rec) = (x, 11) by unfold sureS; split; rfl; exact if_neg (fun h => hfe h.2))
      clear hbeg hfe hx ht hfr hp
      clear HK
      go_enter Tryd.func54, Tryd.ntmps54
      go_wp2_with fail
      go_quiet (fail)
      go_wp2
      go_ret
      rw [HS.out]
      exact ⟨rfl, HDid1.out _⟩
end Go.Proofs.YtnhjhaphfdlkfaaDoor.Sg
/- The document's Said: Take, whole; between the rounds of its Scan. -/
set_option linter.unusedVariables false
set_option linter.unusedSimpArgs false
namespace Go.Proofs.YtnhjhaphfdlkfaaDoor.Sg
open Go.RowKit Go.Proofs.YtnhjhaphfdlkfaaDoor.HF Go.Proofs.YtnhjhaphfdlkfaaDoor.SB Go.Proofs.YtnhjhaphfdlkfaaDoorW.PrintWords Go.Proofs.YtnhjhaphfdlkfaaDoorW.PrintLast Go.Proofs.YtnhjhaphfdlkfaaDoorW.PrintMore
theorem rstake_calls (w : World) (base g : Nat) (n : Int) (x : Sc) (F : Nat → Prop) (h : IsRs w base g x F) (hbw : base ≤ w.heap.size) (hx : x.Good) (ht : x.Tells) (r : Rec) (hr : r.may) (hll : x.l.length ≤ 100000) :
    Calls Tryd.prog 54 #[.pointer (some ⟨g, 0, none⟩), r.val, .int .u64 n] w fun e w' => e = .returned (.int .i64 (stakeS n x r).2) ∧ DidRs w w' base g (stakeS n x r).1 F := by
  have hf := may_frame hr
  unfold stakeS
  by_cases h3 : r.kind = 3
  · rw [if_pos h3]
    exact rbegin_calls w base g n x F h hbw hx r h3
  · rw [if_neg h3]
    by_cases h2 : r.kind = 2
    · rw [if_pos h2]
      exact rsure_calls w base g n x F h hbw hx ht r h2 hf hll
    · rw [if_neg h2]
      have h1 : r.kind = 1 := by
        rcases hr with ⟨e, _⟩ | ⟨e, _⟩ | ⟨e, _⟩
        · exact e
        · exact absurd e h2
        · exact absurd e h3
      exact rown_calls w base g n x F h hbw hx r h1 hf hll
structure StR (w W : World) (h g : Nat) (x : Sc) (F : Nat → Prop) : Prop where
  ch : W.heap[h]? = some (.cells Rec.zero.cells 55 (0, 0))
  rs : IsRs W w.heap.size g x F
  fh : ¬ F h
  lo : w.heap.size ≤ h
  below : Below w.heap.size w W
theorem str_free {w W W1 : World} {h g : Nat} {x : Sc} {F : Nat → Prop} (H : StR w W h g x F) (hk : Kept W W1 (fun _ => False)) (hB : Below w.heap.size w W1) : StR w W1 h g x F :=
  ⟨blk_kept H.ch hk (fun h => h), rs_kept H.rs hk, H.fh, H.lo, hB⟩
theorem str_below {w W W1 : World} {h g : Nat} {x : Sc} {F : Nat → Prop} (H : StR w W h g x F) (hB : Below W.heap.size W W1) : StR w W1 h g x F :=
  str_free H (Kept.of_below hB _) (H.below.trans (hB.mono H.below.size))
theorem str_did {w W W1 : World} {h g : Nat} {x x1 : Sc} {F : Nat → Prop} (H : StR w W h g x F) (hd : DidRs W W1 w.heap.size g x1 F) : ∃ F1, StR w W1 h g x1 F1 := by
  obtain ⟨F1, h1, h2, h3, h4⟩ := hd
  refine ⟨F1, blk_kept H.ch h3 H.fh, h1, fun hf => ?_, H.lo, H.below.trans h4⟩
  rcases h2 _ hf with h | h
  · exact H.fh h
  · have := blk_lt H.ch; omega
theorem str_start (w : World) : StR w ((w.alloc (.cells Rec.zero.cells 55)).alloc (.cells (rsCells Sc.start (.slice none 0 0)) 109)) w.heap.size (w.heap.size + 1) Sc.start (fun k => k = w.heap.size + 1) := by
  have e1 : (w.alloc (.cells Rec.zero.cells 55)).heap.size = w.heap.size + 1 := by simp
  have b0 := heap_alloc_new w (.cells Rec.zero.cells 55)
  have b1 := heap_alloc_new (w.alloc (.cells Rec.zero.cells 55)) (.cells (rsCells Sc.start (.slice none 0 0)) 109)
  rw [e1] at b1
  refine ⟨blk_alloc b0 _, ⟨.slice none 0 0, b1, ⟨rfl, Or.inl ⟨rfl, none, rfl, by simp⟩⟩, rfl, fun k e => by simp [Value.ownBlock] at e, ?_⟩, by omega, by omega, ((Below.refl w.heap.size w).alloc (by omega) _).alloc (by rw [e1]; omega) _⟩
  rintro k rfl
  exact ⟨by omega, blk_lt b1⟩
theorem rscan_res {tmps : Array Value} {w : World} (b : Nat) (R : Rec) (h2 : tmps.getD 4 undef = .pointer (some ⟨b, 0, none⟩)) (hb : w.heap[b]? = some (.cells R.cells 55 (0, 0))) : (results Tryd.f21 tmps).run Tryd.prog w = .ok (.tuple #[R.val, tmps.getD 5 undef, tmps.getD 6 undef, tmps.getD 7 undef]) w :=
  results_list (rs := [.cell 4 55, .tmp 5, .tmp 6, .tmp 7]) Tryd.results21 (by simp) (.cell b 55 R.cells (0, 0) _ h2 hb Tryd.underlying55 rfl info55 (.tmp (.tmp (.tmp .nil))))
/-- One round of Scan, by what comes up. -/
theorem scan_ways (n : Int) (l : List UInt8) (f : Nat) (x : Sc) (gd : Nat) (hc : gd < l.length ∨ x.begun = false) (T : List UInt8) (m e : Int) (hN : nextN (l.drop gd) = (T, m, e)) :
    (e ≠ 0 → scanN n l (f + 1) x gd = (x, gd, e)) ∧ (e = 0 → (takeG T).2 ≠ 0 → scanN n l (f + 1) x gd = (x, gd, (takeG T).2)) ∧
    (e = 0 → (takeG T).2 = 0 → (stakeS n x (takeG T).1).2 ≠ 0 → scanN n l (f + 1) x gd = ((stakeS n x (takeG T).1).1, gd, (stakeS n x (takeG T).1).2)) ∧
    (e = 0 → (takeG T).2 = 0 → (stakeS n x (takeG T).1).2 = 0 → scanN n l (f + 1) x gd = scanN n l f (stakeS n x (takeG T).1).1 (gd + m.toNat)) := by
  rw [scanN, if_pos hc, hN]
  simp only
  refine ⟨fun h => if_pos h, fun h1 h2 => ?_, fun h1 h2 h3 => ?_, fun h1 h2 h3 => ?_⟩
  · rw [if_neg (fun h => h h1), if_pos h2]
  · rw [if_neg (fun h => h h1), if_neg (fun h => h h2), if_pos h3]
  · rw [if_neg (fun h => h h1), if_neg (fun h => h h2), if_neg (fun h => h h3)]
end Go.Proofs.YtnhjhaphfdlkfaaDoor.Sg
