/- NetworkPlays: the walk. -/
import Derived.Test.YtjdehmclcdiijaaRp
set_option linter.unusedVariables false
namespace Go.Proofs.Ytjdehmclcdiijaa.Hp
open Go.RowKit Go.Proofs.YtjdehmclcdiijaaW.PrintWords Go.Proofs.YtjdehmclcdiijaaW.PrintLast Go.Proofs.YtjdehmclcdiijaaW.PrintMore Go.Proofs.Ytjdehmclcdiijaa.PNetworkApart

theorem rd_mem' {l : List S30} {k : Nat} (h : k < l.length) : rd_T30 l (k : Int) ∈ l := by
  unfold rd_T30
  rw [Int.toNat_natCast, List.getD_eq_getElem?_getD, List.getElem?_eq_getElem h, Option.getD_some]
  exact List.getElem_mem h
theorem duo_keep {w w' : World} {base g1 g2 : Nat} {a b : AN} {Fa Fb : Nat → Prop} (h : Duo w base g1 g2 a b Fa Fb) (k : Kept w w' (fun _ => False)) : Duo w' base g1 g2 a b Fa Fb :=
  ⟨isa_kept h.l k (fun _ _ hf => hf), isr_kept h.r k (fun _ _ hf => hf), h.apart⟩

set_option maxHeartbeats 4000000 in
set_option maxRecDepth 100000 in
theorem plays_some (most : Int) (hm0 : 1 ≤ most) (hm1 : most ≤ 64) (A0 : Option Addr) (c0 : Nat) (l : List S30) (W : World) (hr0 : Kd.C k30 W A0 l.length l) (hc0 : l.length ≤ c0) (hwf : ∀ x ∈ l, 0 ≤ x.f0 ∧ x.f0 < 256 ∧ 0 ≤ x.f3.f0 ∧ x.f3.f0 < 256 ∧ 0 ≤ x.f3.f1 ∧ x.f3.f1 < 256) :
    Calls Try.prog 5 #[.int .i64 most, .slice A0 l.length c0] W fun e w' => e = .returned (.bool true) ∧ Below W.heap.size W w' := by
  have HC := Lib.hid hr0
  have HN1 := Lib.hid (a_new W W.heap.size (Nat.le_refl _) most hm0 hm1)
  go_enter Try.func5, Try.ntmps5
  go_wp2_with fail
  refine (HN1.out).mono ?_
  rintro e w1 ⟨rfl, hA1, hK1, hB1⟩
  have HA1 := Lib.hid hA1
  have HB1 := Lib.hid hB1
  have HN2 := Lib.hid (r_new w1 W.heap.size hB1.size most hm0 hm1)
  clear hA1 hK1 hB1
  go_wp2_with fail
  refine (HN2.out).mono ?_
  rintro e w2 ⟨rfl, hA2, hK2, hB2⟩
  have HTwo := Lib.hid (show Duo w2 W.heap.size W.heap.size w1.heap.size (afresh most) (afresh most) (fun k => k = W.heap.size) (fun k => k = w1.heap.size) from
    ⟨isa_kept HA1.out hK2 (fun _ _ hf => hf), hA2, by rintro k rfl e; have := ((isa_foot HA1.out).2 _ rfl).2; omega⟩)
  have HB2 := Lib.hid (HB1.out.trans hB2)
  clear hA2 hK2 hB2
  obtain ⟨r, hr150, HF⟩ := few_calls A0 c0 l w2 (Kd.C_below HC.out HB2.out) hc0
  have HFew := Lib.hid HF
  clear HF
  go_wp2_with fail
  refine (HFew.out).mono ?_
  rintro e w3 ⟨rfl, m, rfl⟩
  cases r
  · go_wp2_with fail
    refine (works_calls _).mono ?_
    rintro e w4 ⟨rfl, hB4⟩
    go_wp2
    go_ret
    exact ⟨rfl, (pw_below_drewN HB2.out m).trans (hB4.mono (by exact HB2.out.size))⟩
  · have hl150 := hr150 rfl
    go_wp2
    go_loopw [7] (fun i wr => ∃ (k : Nat) (a : AN) (Fa Fb : Nat → Prop), i = .int .i64 k ∧ k ≤ l.length ∧ Duo wr W.heap.size W.heap.size w1.heap.size a a Fa Fb ∧ ASmall a (8 * k) ∧ Below W.heap.size W wr) (fun i _ => l.length - (intOf i).toNat)
    case atStart =>
      have hs := afresh_small (most := most) (by omega) hm1
      exact ⟨0, _, _, _, rfl, by omega, duo_keep HTwo.out ((Kept.refl _ _).drewN m), asmall_mono hs (by omega), pw_below_drewN HB2.out m⟩
    case round =>
      obtain ⟨k, a, Fa, Fb, rfl, hk, hT, hSa, hB⟩ := hrel
      have HSa := Lib.hid hSa
      by_cases hlt : k < l.length
      · obtain ⟨ad, rfl, hcells⟩ := act_at HC.out hlt
        have hx := hwf (rd_T30 l k) (rd_mem' hlt)
        have hcs := hcells wr hB
        clear hcells
        generalize rd_T30 l k = x at *
        obtain ⟨z0, z1, z2, z3, z4⟩ := hcs
        have hx0 : 0 ≤ x.f0 := hx.1
        have HT := Lib.hid (duo_keep hT ((Kept.refl wr (fun _ => False)).alloc (.cells (actCells x) 30)))
        have HB := Lib.hid (hB.alloc hB.size (.cells (actCells x) 30))
        have HAct := Lib.hid (heap_alloc_new wr (.cells (actCells x) 30))
        have HnA := Lib.hid (show ¬ Fa wr.heap.size from fun hf => by have := ((isa_foot hT.l).2 _ hf).2; omega)
        have HnB := Lib.hid (show ¬ Fb wr.heap.size from fun hf => by have := ((isr_foot hT.r).2 _ hf).2; omega)
        clear hT hB hSa
        rcases (by omega : x.f0 % 4 = 0 ∨ x.f0 % 4 = 1 ∨ x.f0 % 4 = 2 ∨ x.f0 % 4 = 3) with h4 | h4 | h4 | h4
        · have HS1 := Lib.hid (w_send (wr.alloc (.cells (actCells x) 30)) W.heap.size W.heap.size a Fa HT.out.l (8 * k) HSa.out (by omega) HB.out.size x.f1 x.f2 x.f3.f0 x.f3.f1 hx.2.2.1 hx.2.2.2.1 hx.2.2.2.2.1 hx.2.2.2.2.2)
          go_wp2_with fail
          refine (HS1.out).mono ?_
          rintro e w5 ⟨rfl, hD5⟩
          obtain ⟨Fa5, hT5, hs5, hB5, hk5⟩ := duo_left HT.out hD5
          have hblk : w5.heap[wr.heap.size]? = some (.cells (actCells x) 30 (0, 0)) := (hk5.2 _ (by simp) HnA.out).trans HAct.out
          have y1 : w5.cell? ⟨wr.heap.size, 1, none⟩ = some (.int .i64 x.f1) := act_cells hblk 1
          have y2 : w5.cell? ⟨wr.heap.size, 2, none⟩ = some (.string x.f2) := act_cells hblk 2
          have y3 : w5.cell? ⟨wr.heap.size, 3, none⟩ = some (.int .u8 x.f3.f0) := act_cells hblk 3
          have y4 : w5.cell? ⟨wr.heap.size, 4, none⟩ = some (.int .u8 x.f3.f1) := act_cells hblk 4
          have HT5 := Lib.hid hT5
          have HB5 := Lib.hid (HB.out.trans hB5)
          have HBlk := Lib.hid hblk
          clear hD5 hT5 hs5 hB5 hk5 hblk
          have HS2 := Lib.hid (w_rsend w5 W.heap.size w1.heap.size a Fb HT5.out.r (8 * k) HSa.out (by omega) HB5.out.size x.f1 x.f2 x.f3.f0 x.f3.f1 hx.2.2.1 hx.2.2.2.1 hx.2.2.2.2.1 hx.2.2.2.2.2)
          go_wp2_with fail
          refine (HS2.out).mono ?_
          rintro e w6 ⟨rfl, hD6⟩
          obtain ⟨Fb6, hT6, hs6, hB6, hk6⟩ := duo_right HT5.out hD6
          have hblk6 : w6.heap[wr.heap.size]? = some (.cells (actCells x) 30 (0, 0)) := (hk6.2 _ (blk_lt HBlk.out) HnB.out).trans HBlk.out
          have v1 : w6.cell? ⟨wr.heap.size, 1, none⟩ = some (.int .i64 x.f1) := act_cells hblk6 1
          have HT6 := Lib.hid hT6
          have HB6 := Lib.hid (HB5.out.trans hB6)
          clear hD6 hT6 hs6 hB6 hk6 hblk6
          have HC6 := Lib.hid (counts_calls w6 W.heap.size W.heap.size w1.heap.size (wSend a x.f1 x.f2 x.f3.f0 x.f3.f1) Fa5 Fb6 HT6.out (wSend_small HSa.out x.f1 x.f2 x.f3.f0 x.f3.f1).most0 x.f1)
          go_wp2_with fail
          refine (HC6.out).mono ?_
          rintro e w7 ⟨rfl, m7, rfl⟩
          go_wp2
          refine ⟨⟨k + 1, (wSend a x.f1 x.f2 x.f3.f0 x.f3.f1), _, _, by go_num, by omega, duo_keep HT6.out ((Kept.refl _ _).drewN m7), asmall_mono (wSend_small HSa.out x.f1 x.f2 x.f3.f0 x.f3.f1) (by omega), pw_below_drewN HB6.out m7⟩, by simp [intOf]; omega⟩
        · have HS1 := Lib.hid (w_send (wr.alloc (.cells (actCells x) 30)) W.heap.size W.heap.size a Fa HT.out.l (8 * k) HSa.out (by omega) HB.out.size x.f1 x.f2 x.f3.f0 x.f3.f1 hx.2.2.1 hx.2.2.2.1 hx.2.2.2.2.1 hx.2.2.2.2.2)
          go_wp2_with fail
          refine (HS1.out).mono ?_
          rintro e w5 ⟨rfl, hD5⟩
          obtain ⟨Fa5, hT5, hs5, hB5, hk5⟩ := duo_left HT.out hD5
          have hblk : w5.heap[wr.heap.size]? = some (.cells (actCells x) 30 (0, 0)) := (hk5.2 _ (by simp) HnA.out).trans HAct.out
          have y1 : w5.cell? ⟨wr.heap.size, 1, none⟩ = some (.int .i64 x.f1) := act_cells hblk 1
          have y2 : w5.cell? ⟨wr.heap.size, 2, none⟩ = some (.string x.f2) := act_cells hblk 2
          have y3 : w5.cell? ⟨wr.heap.size, 3, none⟩ = some (.int .u8 x.f3.f0) := act_cells hblk 3
          have y4 : w5.cell? ⟨wr.heap.size, 4, none⟩ = some (.int .u8 x.f3.f1) := act_cells hblk 4
          have HT5 := Lib.hid hT5
          have HB5 := Lib.hid (HB.out.trans hB5)
          have HBlk := Lib.hid hblk
          clear hD5 hT5 hs5 hB5 hk5 hblk
          have HS2 := Lib.hid (w_rsend w5 W.heap.size w1.heap.size a Fb HT5.out.r (8 * k) HSa.out (by omega) HB5.out.size x.f1 x.f2 x.f3.f0 x.f3.f1 hx.2.2.1 hx.2.2.2.1 hx.2.2.2.2.1 hx.2.2.2.2.2)
          go_wp2_with fail
          refine (HS2.out).mono ?_
          rintro e w6 ⟨rfl, hD6⟩
          obtain ⟨Fb6, hT6, hs6, hB6, hk6⟩ := duo_right HT5.out hD6
          have hblk6 : w6.heap[wr.heap.size]? = some (.cells (actCells x) 30 (0, 0)) := (hk6.2 _ (blk_lt HBlk.out) HnB.out).trans HBlk.out
          have v1 : w6.cell? ⟨wr.heap.size, 1, none⟩ = some (.int .i64 x.f1) := act_cells hblk6 1
          have HT6 := Lib.hid hT6
          have HB6 := Lib.hid (HB5.out.trans hB6)
          clear hD6 hT6 hs6 hB6 hk6 hblk6
          have HC6 := Lib.hid (counts_calls w6 W.heap.size W.heap.size w1.heap.size (wSend a x.f1 x.f2 x.f3.f0 x.f3.f1) Fa5 Fb6 HT6.out (wSend_small HSa.out x.f1 x.f2 x.f3.f0 x.f3.f1).most0 x.f1)
          go_wp2_with fail
          refine (HC6.out).mono ?_
          rintro e w7 ⟨rfl, m7, rfl⟩
          go_wp2
          refine ⟨⟨k + 1, (wSend a x.f1 x.f2 x.f3.f0 x.f3.f1), _, _, by go_num, by omega, duo_keep HT6.out ((Kept.refl _ _).drewN m7), asmall_mono (wSend_small HSa.out x.f1 x.f2 x.f3.f0 x.f3.f1) (by omega), pw_below_drewN HB6.out m7⟩, by simp [intOf]; omega⟩
        · have HS1 := Lib.hid (w_recv (wr.alloc (.cells (actCells x) 30)) W.heap.size W.heap.size a Fa HT.out.l (8 * k) HSa.out (by omega) x.f1)
          go_wp2_with fail
          refine (HS1.out).mono ?_
          rintro e w5 ⟨rfl, hD5⟩
          obtain ⟨Fa5, hT5, hs5, hB5, hk5⟩ := duo_left HT.out hD5
          have hblk : w5.heap[wr.heap.size]? = some (.cells (actCells x) 30 (0, 0)) := (hk5.2 _ (by simp) HnA.out).trans HAct.out
          have y1 : w5.cell? ⟨wr.heap.size, 1, none⟩ = some (.int .i64 x.f1) := act_cells hblk 1
          have y2 : w5.cell? ⟨wr.heap.size, 2, none⟩ = some (.string x.f2) := act_cells hblk 2
          have y3 : w5.cell? ⟨wr.heap.size, 3, none⟩ = some (.int .u8 x.f3.f0) := act_cells hblk 3
          have y4 : w5.cell? ⟨wr.heap.size, 4, none⟩ = some (.int .u8 x.f3.f1) := act_cells hblk 4
          have HT5 := Lib.hid hT5
          have HB5 := Lib.hid (HB.out.trans hB5)
          have HBlk := Lib.hid hblk
          clear hD5 hT5 hs5 hB5 hk5 hblk
          have HS2 := Lib.hid (w_rrecv w5 W.heap.size w1.heap.size a Fb HT5.out.r (8 * k) HSa.out (by omega) x.f1)
          go_wp2_with fail
          refine (HS2.out).mono ?_
          rintro e w6 ⟨rfl, hD6⟩
          obtain ⟨Fb6, hT6, hs6, hB6, hk6⟩ := duo_right HT5.out hD6
          have hblk6 : w6.heap[wr.heap.size]? = some (.cells (actCells x) 30 (0, 0)) := (hk6.2 _ (blk_lt HBlk.out) HnB.out).trans HBlk.out
          have v1 : w6.cell? ⟨wr.heap.size, 1, none⟩ = some (.int .i64 x.f1) := act_cells hblk6 1
          have HT6 := Lib.hid hT6
          have HB6 := Lib.hid (HB5.out.trans hB6)
          clear hD6 hT6 hs6 hB6 hk6 hblk6
          have HC6 := Lib.hid (counts_calls w6 W.heap.size W.heap.size w1.heap.size (wRec a x.f1) Fa5 Fb6 HT6.out (wRec_small HSa.out x.f1).most0 x.f1)
          go_wp2_with fail
          refine (HC6.out).mono ?_
          rintro e w7 ⟨rfl, m7, rfl⟩
          go_wp2
          refine ⟨⟨k + 1, (wRec a x.f1), _, _, by go_num, by omega, duo_keep HT6.out ((Kept.refl _ _).drewN m7), asmall_mono (wRec_small HSa.out x.f1) (by omega), pw_below_drewN HB6.out m7⟩, by simp [intOf]; omega⟩
        · have HS1 := Lib.hid (a_tick (wr.alloc (.cells (actCells x) 30)) W.heap.size W.heap.size a Fa HT.out.l (8 * k) HSa.out (by omega))
          go_wp2_with fail
          refine (HS1.out).mono ?_
          rintro e w5 ⟨rfl, hD5⟩
          obtain ⟨Fa5, hT5, hs5, hB5, hk5⟩ := duo_left HT.out hD5
          have hblk : w5.heap[wr.heap.size]? = some (.cells (actCells x) 30 (0, 0)) := (hk5.2 _ (by simp) HnA.out).trans HAct.out
          have y1 : w5.cell? ⟨wr.heap.size, 1, none⟩ = some (.int .i64 x.f1) := act_cells hblk 1
          have y2 : w5.cell? ⟨wr.heap.size, 2, none⟩ = some (.string x.f2) := act_cells hblk 2
          have y3 : w5.cell? ⟨wr.heap.size, 3, none⟩ = some (.int .u8 x.f3.f0) := act_cells hblk 3
          have y4 : w5.cell? ⟨wr.heap.size, 4, none⟩ = some (.int .u8 x.f3.f1) := act_cells hblk 4
          have HT5 := Lib.hid hT5
          have HB5 := Lib.hid (HB.out.trans hB5)
          have HBlk := Lib.hid hblk
          clear hD5 hT5 hs5 hB5 hk5 hblk
          obtain ⟨vs5, hv5⟩ := HT5.out.r
          have n1 : w5.cell? ⟨w1.heap.size, 1, none⟩ = some (.int .u64 a.now) := rv_cell hv5 1
          have n2 : w5.frozen? ⟨w1.heap.size, 1, none⟩ = false := rv_free hv5 1
          have hn0 := HSa.out.now.1
          have hn1 : a.now < 1000000 := by have := HSa.out.now.2; omega
          have hne : ¬ (wr.heap.size = w1.heap.size) := fun e => HnB.out (e ▸ by
            have h9 := hv5.2.2.2.1
            exact h9)
          have hD6 := isr_set (w := w5) (base := W.heap.size) (g := w1.heap.size) (a := a) (a' := a.tick) (F := Fb) ⟨vs5, hv5⟩ 1 (.int .u64 (a.now + 1)) (fun vs => rfl) rfl
          have HD6 := Lib.hid hD6
          clear hv5 hD6
          obtain ⟨Fb6, hT6, hs6, hB6, hk6⟩ := duo_right HT5.out HD6.out
          have hblk6 : (w5.setCell ⟨w1.heap.size, 1, none⟩ (.int .u64 (a.now + 1))).heap[wr.heap.size]? = some (.cells (actCells x) 30 (0, 0)) := (hk6.2 _ (blk_lt HBlk.out) HnB.out).trans HBlk.out
          have v1 : (w5.setCell ⟨w1.heap.size, 1, none⟩ (.int .u64 (a.now + 1))).cell? ⟨wr.heap.size, 1, none⟩ = some (.int .i64 x.f1) := act_cells hblk6 1
          have HT6 := Lib.hid hT6
          have HB6 := Lib.hid (HB5.out.trans hB6)
          clear hT6 hs6 hB6 hk6 hblk6
          have HC6 := Lib.hid (counts_calls (w5.setCell ⟨w1.heap.size, 1, none⟩ (.int .u64 (a.now + 1))) W.heap.size W.heap.size w1.heap.size a.tick Fa5 Fb6 HT6.out (atick_small HSa.out).most0 x.f1)
          go_wp2_with fail
          refine (HC6.out).mono ?_
          rintro e w7 ⟨rfl, m7, rfl⟩
          go_wp2
          refine ⟨⟨k + 1, a.tick, _, _, by go_num, by omega, duo_keep HT6.out ((Kept.refl _ _).drewN m7), asmall_mono (atick_small HSa.out) (by omega), pw_below_drewN HB6.out m7⟩, by simp [intOf]; omega⟩
      · have hkl : k = l.length := by omega
        have HB := Lib.hid hB
        clear hB hT hSa
        go_wp2_with fail
        refine (works_calls _).mono ?_
        rintro e w6 ⟨rfl, hB6⟩
        go_wp2
        go_ret
        exact ⟨rfl, HB.out.trans (hB6.mono HB.out.size)⟩
set_option maxHeartbeats 4000000 in
set_option maxRecDepth 100000 in
theorem plays_none (most : Int) (hm : most < 1 ∨ 64 < most) (A0 : Option Addr) (c0 : Nat) (l : List S30) (W : World) (hr0 : Kd.C k30 W A0 l.length l) (hc0 : l.length ≤ c0) (hwf : ∀ x ∈ l, 0 ≤ x.f0 ∧ x.f0 < 256 ∧ 0 ≤ x.f3.f0 ∧ x.f3.f0 < 256 ∧ 0 ≤ x.f3.f1 ∧ x.f3.f1 < 256) :
    Calls Try.prog 5 #[.int .i64 most, .slice A0 l.length c0] W fun e w' => e = .returned (.bool true) ∧ Below W.heap.size W w' := by
  have HC := Lib.hid hr0
  have HN1 := Lib.hid (new_none W most hm)
  have HN2 := Lib.hid (r_new_none W most hm)
  clear hm
  go_enter Try.func5, Try.ntmps5
  go_wp2_with fail
  refine (HN1.out).mono ?_
  rintro e w1 ⟨rfl, rfl⟩
  go_wp2_with fail
  refine (HN2.out).mono ?_
  rintro e w1 ⟨rfl, rfl⟩
  obtain ⟨r, hr150, HF⟩ := few_calls A0 c0 l W HC.out hc0
  have HFew := Lib.hid HF
  clear HF
  go_wp2_with fail
  refine (HFew.out).mono ?_
  rintro e w3 ⟨rfl, m, rfl⟩
  cases r
  · go_wp2_with fail
    refine (works_calls _).mono ?_
    rintro e w4 ⟨rfl, hB4⟩
    go_wp2
    go_ret
    exact ⟨rfl, (pw_below_drewN (Below.refl _ _) m).trans (hB4.mono (Nat.le_refl _))⟩
  · have hl150 := hr150 rfl
    go_wp2
    go_loopw [7] (fun i wr => ∃ k : Nat, i = .int .i64 k ∧ k ≤ l.length ∧ Below W.heap.size W wr) (fun i _ => l.length - (intOf i).toNat)
    case atStart => exact ⟨0, rfl, by omega, pw_below_drewN (Below.refl _ _) m⟩
    case round =>
      obtain ⟨k, rfl, hk, hB⟩ := hrel
      by_cases hlt : k < l.length
      · obtain ⟨ad, rfl, hcells⟩ := act_at HC.out hlt
        have hx := hwf (rd_T30 l k) (rd_mem' hlt)
        have hcs := hcells wr hB
        clear hcells
        generalize rd_T30 l k = x at *
        obtain ⟨z0, z1, z2, z3, z4⟩ := hcs
        have hx0 : 0 ≤ x.f0 := hx.1
        have HB := Lib.hid (hB.alloc hB.size (.cells (actCells x) 30))
        have HAct := Lib.hid (heap_alloc_new wr (.cells (actCells x) 30))
        clear hB
        rcases (by omega : x.f0 % 4 = 0 ∨ x.f0 % 4 = 1 ∨ x.f0 % 4 = 2 ∨ x.f0 % 4 = 3) with h4 | h4 | h4 | h4
        · have HS1 := Lib.hid (send_none (wr.alloc (.cells (actCells x) 30)) none x.f1 x.f2 x.f3.f0 x.f3.f1 is_nil)
          go_wp2_with fail
          refine (HS1.out).mono ?_
          rintro e w5 ⟨rfl, ob, hw⟩
          have HB5 := Lib.hid (HB.out.alloc HB.out.size ob)
          rw [← hw] at HB5
          have hblk : w5.heap[wr.heap.size]? = some (.cells (actCells x) 30 (0, 0)) := by rw [hw]; exact (Below.heap_alloc _ _ _ (blk_lt HAct.out)).trans HAct.out
          have y1 : w5.cell? ⟨wr.heap.size, 1, none⟩ = some (.int .i64 x.f1) := act_cells hblk 1
          have y2 : w5.cell? ⟨wr.heap.size, 2, none⟩ = some (.string x.f2) := act_cells hblk 2
          have y3 : w5.cell? ⟨wr.heap.size, 3, none⟩ = some (.int .u8 x.f3.f0) := act_cells hblk 3
          have y4 : w5.cell? ⟨wr.heap.size, 4, none⟩ = some (.int .u8 x.f3.f1) := act_cells hblk 4
          clear hw hblk
          have HS2 := Lib.hid (r_send_none w5 x.f1 x.f2 x.f3.f0 x.f3.f1)
          go_wp2_with fail
          refine (HS2.out).mono ?_
          rintro e w6 ⟨rfl, rfl⟩
          have HC6 := Lib.hid (counts_none w5 none x.f1 is_nil (fun w => may_nil w x.f1))
          go_wp2_with fail
          refine (HC6.out).mono ?_
          rintro e w7 ⟨rfl, rfl⟩
          go_wp2
          exact ⟨⟨k + 1, by go_num, by omega, HB5.out⟩, by simp [intOf]; omega⟩
        · have HS1 := Lib.hid (send_none (wr.alloc (.cells (actCells x) 30)) none x.f1 x.f2 x.f3.f0 x.f3.f1 is_nil)
          go_wp2_with fail
          refine (HS1.out).mono ?_
          rintro e w5 ⟨rfl, ob, hw⟩
          have HB5 := Lib.hid (HB.out.alloc HB.out.size ob)
          rw [← hw] at HB5
          have hblk : w5.heap[wr.heap.size]? = some (.cells (actCells x) 30 (0, 0)) := by rw [hw]; exact (Below.heap_alloc _ _ _ (blk_lt HAct.out)).trans HAct.out
          have y1 : w5.cell? ⟨wr.heap.size, 1, none⟩ = some (.int .i64 x.f1) := act_cells hblk 1
          have y2 : w5.cell? ⟨wr.heap.size, 2, none⟩ = some (.string x.f2) := act_cells hblk 2
          have y3 : w5.cell? ⟨wr.heap.size, 3, none⟩ = some (.int .u8 x.f3.f0) := act_cells hblk 3
          have y4 : w5.cell? ⟨wr.heap.size, 4, none⟩ = some (.int .u8 x.f3.f1) := act_cells hblk 4
          clear hw hblk
          have HS2 := Lib.hid (r_send_none w5 x.f1 x.f2 x.f3.f0 x.f3.f1)
          go_wp2_with fail
          refine (HS2.out).mono ?_
          rintro e w6 ⟨rfl, rfl⟩
          have HC6 := Lib.hid (counts_none w5 none x.f1 is_nil (fun w => may_nil w x.f1))
          go_wp2_with fail
          refine (HC6.out).mono ?_
          rintro e w7 ⟨rfl, rfl⟩
          go_wp2
          exact ⟨⟨k + 1, by go_num, by omega, HB5.out⟩, by simp [intOf]; omega⟩
        · have HS1 := Lib.hid (recv_none (wr.alloc (.cells (actCells x) 30)) none x.f1 (fun n => may_nil ((wr.alloc (.cells (actCells x) 30)).drewN n) x.f1))
          go_wp2_with fail
          refine (HS1.out).mono ?_
          rintro e w5 ⟨rfl, mb, hw⟩
          have HB5 := Lib.hid (pw_below_drewN HB.out mb)
          rw [← hw] at HB5
          have hblk : w5.heap[wr.heap.size]? = some (.cells (actCells x) 30 (0, 0)) := by rw [hw]; exact HAct.out
          have y1 : w5.cell? ⟨wr.heap.size, 1, none⟩ = some (.int .i64 x.f1) := act_cells hblk 1
          clear hw hblk
          have HS2 := Lib.hid (r_recv_none w5 x.f1)
          go_wp2_with fail
          refine (HS2.out).mono ?_
          rintro e w6 ⟨rfl, rfl⟩
          have HC6 := Lib.hid (counts_none w5 none x.f1 is_nil (fun w => may_nil w x.f1))
          go_wp2_with fail
          refine (HC6.out).mono ?_
          rintro e w7 ⟨rfl, rfl⟩
          go_wp2
          exact ⟨⟨k + 1, by go_num, by omega, HB5.out⟩, by simp [intOf]; omega⟩
        · have HS1 := Lib.hid (tick_none (wr.alloc (.cells (actCells x) 30)) none (is_nil _))
          go_wp2_with fail
          refine (HS1.out).mono ?_
          rintro e w5 ⟨rfl, rfl⟩
          clear HS1
          generalize wr.alloc (.cells (actCells x) 30) = w5 at *
          have y1 : w5.cell? ⟨wr.heap.size, 1, none⟩ = some (.int .i64 x.f1) := act_cells HAct.out 1
          have HC6 := Lib.hid (counts_none w5 none x.f1 is_nil (fun w => may_nil w x.f1))
          go_wp2_with fail
          refine (HC6.out).mono ?_
          rintro e w7 ⟨rfl, rfl⟩
          go_wp2
          exact ⟨⟨k + 1, by go_num, by omega, HB.out⟩, by simp [intOf]; omega⟩
      · have hkl : k = l.length := by omega
        have HB := Lib.hid hB
        clear hB
        go_wp2_with fail
        refine (works_calls _).mono ?_
        rintro e w6 ⟨rfl, hB6⟩
        go_wp2
        go_ret
        exact ⟨rfl, HB.out.trans (hB6.mono HB.out.size)⟩
end Go.Proofs.Ytjdehmclcdiijaa.Hp
