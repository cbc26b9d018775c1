/- NetworkHonest: the walk. -/
import Derived.Test.YtjdehmclcdiijaaHv
import Derived.Test.YtjdehmclcdiijaaHx
import Derived.Deep.QuietTactic
import Derived.Deep.RegionHeld
import Derived.Deep.RegionHeldLaw
import Derived.Deep.DeepCutAuto
import Derived.Deep.CutBlock
set_option linter.unusedVariables false
namespace Go.Proofs.Ytjdehmclcdiijaa.Hp
open Go.RowKit Go.Proofs.YtjdehmclcdiijaaW.PrintWords Go.Proofs.YtjdehmclcdiijaaW.PrintLast Go.Proofs.YtjdehmclcdiijaaW.PrintMore Go.Proofs.Ytjdehmclcdiijaa.PNetworkApart
def xRec (a : AN) (o : Nat) : AN := if aready a o = true then arecv a o else a
def xRecS (a : AN) (o : Nat) : ByteArray := if aready a o = true then atop a o else .empty
theorem h_recv (w : World) (base g : Nat) (a : AN) (F : Nat → Prop) (h : IsA w base g a F) (B : Int) (hs : ASmall a B) (hB : B ≤ 100000) (o : Nat) (ho : o < 2) :
    Calls Try.prog 15 #[.pointer (some ⟨g, 0, none⟩), .int .i64 o] w fun e w' => e = .returned (.tuple #[.string (xRecS a o), .bool (aready a o)]) ∧ DidA w w' base g (xRec a o) F := by
  unfold xRecS xRec
  cases hr : aready a o
  · rw [if_neg Bool.false_ne_true, if_neg Bool.false_ne_true]
    refine (a_recv_not w base g a F h hs.most0 o ho hr).mono ?_
    rintro e w' ⟨rfl, m, rfl⟩
    exact ⟨rfl, dida_drewN h m⟩
  · rw [if_pos rfl, if_pos rfl]
    exact a_recv w base g a F h B hs hB o ho hr
/-- What stands between the statements of a round. -/
structure St (W w : World) (g : Nat) (m B sl : Int) (a : AN) (F : Nat → Prop) (v : Value) (out : List Cp) : Prop where
  hon : Hon w W.heap.size g a F v out
  inv : Inv out a sl
  small : ASmall a B
  most : a.most = m
  below : Below W.heap.size W w
/-- The kind of a round: 0 behind the acts, 1 a Send, 2 a Recv, 3 a Tick. -/
def kd (l : List S30) (k : Nat) : Nat := if k < l.length then (if (rd_T30 l k).f0 % 4 < 2 then 1 else if (rd_T30 l k).f0 % 4 = 2 then 2 else 3) else 0
def isSend (l : List S30) (k : Nat) : Bool := decide (kd l k = 1)
def isTick (l : List S30) (k : Nat) : Bool := decide (kd l k = 0 ∨ kd l k = 3)
def goesOn (l : List S30) (k t : Nat) : Bool := decide (kd l k = 0 ∧ t < 68 ∨ kd l k = 2 ∧ t < 1)
set_option maxHeartbeats 20000000 in
set_option maxRecDepth 100000 in
theorem honest_calls (most : Int) (hm0 : 0 ≤ most) (hm1 : most < 256) (A0 : Option Addr) (c0 : Nat) (l : List S30) (W : World) (hr0 : Kd.C k30 W A0 l.length l) (hc0 : l.length ≤ c0) (hwf : ∀ x ∈ l, 0 ≤ x.f0 ∧ x.f0 < 256 ∧ 0 ≤ x.f3.f0 ∧ x.f3.f0 < 256 ∧ 0 ≤ x.f3.f1 ∧ x.f3.f1 < 256) :
    Calls Try.prog 4 #[.int .u8 most, .slice A0 l.length c0] W fun e w' => e = .returned (.bool true) ∧ Below W.heap.size W w' := by
  have HC := Lib.hid hr0
  have HWF := Lib.hid hwf
  clear hwf hr0
  have hmm : (1 : Int) ≤ 1 + most % 64 := by omega
  have hmm2 : 1 + most % 64 ≤ 64 := by omega
  have HN1 := Lib.hid (a_new W W.heap.size (Nat.le_refl _) (1 + most % 64) hmm hmm2)
  go_enter Try.func4, Try.ntmps4
  go_wp2_with fail
  refine (HN1.out).mono ?_
  rintro e w1 ⟨rfl, hA1, hK1, hB1⟩
  have HA1 := Lib.hid hA1
  have HB1 := Lib.hid hB1
  clear hA1 hK1 hB1
  obtain ⟨r, hr150, HF⟩ := few_calls A0 c0 l w1 (Kd.C_below HC.out HB1.out) hc0
  have HFew := Lib.hid HF
  clear HF
  go_wp2_with fail
  refine (HFew.out).mono ?_
  rintro e w3 ⟨rfl, m, rfl⟩
  cases r
  · go_wp2_with fail
    refine (works_calls _).mono ?_
    rintro e w4 ⟨rfl, hB4⟩
    go_wp2
    go_ret
    exact ⟨rfl, (pw_below_drewN HB1.out m).trans (hB4.mono (by exact HB1.out.size))⟩
  · have hl150 := hr150 rfl
    clear hr150
    generalize hmost : 1 + most % 64 = mo at *
    go_wp2
    go_loopg [7, 8] (l.length + 20) (fun gk t7 t8 wr => ∃ (k : Nat) (a : AN) (F : Nat → Prop) (out : List Cp), t8 = .int .i64 k ∧ gk + k = l.length + 20 ∧ St W wr W.heap.size mo (100 * k) (slk l.length k) a F t7 out)
    case atStart =>
      exact ⟨0, _, _, [], rfl, by omega, ⟨⟨isa_drewN HA1.out m, World.ownsRow_nil _ _ _ _, by simp [Value.ownBlock]⟩, inv_fresh _ _, asmall_mono (afresh_small (by omega) hmm2) (by omega), rfl, pw_below_drewN HB1.out m⟩⟩
    case round =>
      obtain ⟨k, a, F, out, rfl, hk, hH⟩ := hrel
      obtain ⟨Ao, co, rfl⟩ := own_len hH.hon.row
      have HH := Lib.hid hH
      clear hH HA1 HB1 HFew HN1
      by_cases hlt : k < l.length + 20
      · have hdt : decide ((k : Int) < (l.length : Int) + 20) = true := decide_eq_true (by omega)
        go_upto_if 47 with fail
        go_cut [9] from 42 to 55 (fun s9 wx => ∃ o : Nat, o < 2 ∧ s9 = .int .i64 o ∧ wr = wx)
        case first => as_aux_lemma =>
          by_cases hact : k < l.length
          · obtain ⟨ad, rfl, hcells⟩ := act_at HC.out hact
            have hcs := hcells wr HH.out.below
            have hway' := way_mod (rd_T30 l k).f1
            clear hcells
            generalize rd_T30 l k = x at *
            obtain ⟨z0, z1, z2, z3, z4⟩ := hcs
            obtain ⟨o, ho, hway⟩ : ∃ o : Nat, o < 2 ∧ (wrap64 (x.f1.tmod 2 + 2)).tmod 2 = (o : Int) := by
              rcases hway' with h | h
              · exact ⟨0, by omega, h⟩
              · exact ⟨1, by omega, h⟩
            clear hway' z0 z2 z3 z4
            go_wp2
            go_meet
            case rel => exact ⟨o, ho, rfl, rfl⟩
          · go_wp2
            go_meet
            case rel => exact ⟨k % 2, by omega, by rw [Int.natCast_emod]; rfl, rfl⟩
        case rest =>
          obtain ⟨o, ho, rfl, rfl⟩ := hcut
          go_upto_region 14 with fail
          go_cut [68] from 56 to 68 (fun s68 wx => s68 = .bool (isSend l k) ∧ wr = wx)
          case first => as_aux_lemma =>
            by_cases hact : k < l.length
            · obtain ⟨ad, rfl, hcells⟩ := act_at HC.out hact
              have hx0 := (HWF.out _ (rd_mem hact)).1
              have hcs := hcells wr HH.out.below
              have hk1 : isSend l k = decide ((rd_T30 l k).f0 % 4 < 2) := by
                unfold isSend kd
                rw [if_pos hact]
                by_cases h2 : (rd_T30 l k).f0 % 4 < 2
                · rw [if_pos h2, decide_eq_true h2]; rfl
                · rw [if_neg h2, decide_eq_false h2]; split <;> rfl
              have HK := Lib.hid hk1
              clear hcells hk1
              generalize rd_T30 l k = x at *
              obtain ⟨z0, z1, z2, z3, z4⟩ := hcs
              clear z1 z2 z3 z4
              go_wp2
              go_meet
              case rel => exact ⟨by rw [HK.out], rfl⟩
            · have hk1 : isSend l k = false := by unfold isSend kd; rw [if_neg hact]; rfl
              have HK := Lib.hid hk1
              clear hk1
              go_wp2
              go_meet
              case rel => exact ⟨by rw [HK.out], rfl⟩
          case rest =>
            obtain ⟨rfl, rfl⟩ := hcut
            go_upto_if 68 with fail
            go_cut [7] from 68 to 144 (fun s7 wx => ∃ (a1 : AN) (F1 : Nat → Prop) (out1 : List Cp), St W wx W.heap.size mo (100 * k + 4) (slk l.length k) a1 F1 s7 out1)
            case first => as_aux_lemma =>
              cases hsend : isSend l k
              · go_wp2
                go_meet
                case rel => exact ⟨a, F, out, HH.out.hon, HH.out.inv, asmall_mono HH.out.small (by omega), HH.out.most, HH.out.below⟩
              · have hact : k < l.length := by
                  unfold isSend at hsend
                  have h0 := of_decide_eq_true hsend
                  apply Classical.byContradiction
                  intro hn
                  unfold kd at h0
                  rw [if_neg hn] at h0
                  cases h0
                obtain ⟨ad, rfl, hcells⟩ := act_at HC.out hact
                have hx := HWF.out _ (rd_mem hact)
                have hcs := hcells wr HH.out.below
                have HCells := Lib.hid hcells
                have HSL := Lib.hid (slk_act hact).1
                clear hcells hsend
                generalize rd_T30 l k = x at *
                obtain ⟨z0, z1, z2, z3, z4⟩ := hcs
                have hc0' : 0 ≤ x.f3.f0 := hx.2.2.1
                have hd0' : 0 ≤ x.f3.f1 := hx.2.2.2.2.1
                have hd1' : x.f3.f1 < 256 := hx.2.2.2.2.2
                have HS1 := x_send wr.drew W.heap.size W.heap.size a F HH.out.hon.n (100 * k) HH.out.small (by omega) HH.out.below.size o ho x.f2 x.f3.f0 x.f3.f1 hx.2.2.1 hx.2.2.2.1 hx.2.2.2.2.1 hx.2.2.2.2.2
                have HMost := Lib.hid ((aSend_most a o x.f2 x.f3.f0 x.f3.f1).trans HH.out.most)
                have HSm := Lib.hid (aSend_small HH.out.small o x.f2 x.f3.f0 x.f3.f1)
                by_cases hl : x.f2.size ≤ 4102
                · obtain ⟨tt, i1, i2, i3, i4, i5⟩ := h_sent HH.out.inv (by rw [HSL.out]; omega) o ho x.f2 hl x.f3.f0 x.f3.f1
                  rw [i1, i3] at HS1
                  have HS2 := Lib.hid HS1
                  have HI4 := Lib.hid i4
                  have HI5 := Lib.hid i5
                  clear HS1 i1 i3 i4 i5
                  generalize aSend a o x.f2 x.f3.f0 x.f3.f1 = sa at *
                  go_wp2_with fail
                  go_region_held (fun w' => w'.cell? ⟨(ad.add (k * 5)).block, (ad.add (k * 5)).off + 2, none⟩ = some (.string x.f2) ∧ w'.cell? ⟨(ad.add (k * 5)).block, (ad.add (k * 5)).off + 3, none⟩ = some (.int .u8 x.f3.f0) ∧ w'.cell? ⟨(ad.add (k * 5)).block, (ad.add (k * 5)).off + 4, none⟩ = some (.int .u8 x.f3.f1)) (go_keep)
                    (first | (go_at_call 10; refine (HS2.out).mono ?_; rintro e w5 ⟨rfl, hD5⟩; have h5 := hon_did (hon_drew HH.out.hon) hD5; have hB5 := (HH.out.below.drew).trans h5.2; have HT5 := Lib.hid h5.1; have HB5 := Lib.hid hB5; have y := HCells.out w5 hB5; have y2 := y.2.2.1; have y3 := y.2.2.2.1; have y4 := y.2.2.2.2; clear hD5 h5 hB5 y))
                  have hk0 : ¬ ((tt : Int) < 0) := by omega
                  have hk1 : ¬ (x.f3.f0 % 4 < (tt : Int)) := by omega
                  obtain ⟨F5, hT5⟩ := HT5.out
                  have HT6 := Lib.hid hT5
                  clear hT5 HT5
                  have HNW := Lib.hid HH.out.small.now
                  have HOL := Lib.hid (inv_few HH.out.inv HH.out.small)
                  go_wp2_with fail
                  go_loopg [7, 12] tt (fun gk t7 t12 wx => ∃ (j : Nat) (F6 : Nat → Prop), t12 = .int .i64 j ∧ gk + j = tt ∧ Hon wx W.heap.size W.heap.size sa F6 t7 (out ++ noted a o x.f2 x.f3.f1 j) ∧ Below W.heap.size W wx)
                  case atStart => exact ⟨0, F5, rfl, rfl, by rw [noted_zero, List.append_nil]; exact HT6.out, HB5.out⟩
                  case round =>
                    obtain ⟨j, F6, rfl, hj, g1, g2⟩ := hrel
                    obtain ⟨A7, c7, rfl⟩ := own_len g1.row
                    have u := HCells.out wr g2
                    have hne2 := World.new_ne wr _ u.2.2.1
                    have hne4 := World.new_ne wr _ u.2.2.2.2
                    have G1 := Lib.hid g1
                    have G2 := Lib.hid g2
                    have hnw0 := HNW.out.1
                    have hnw1 : a.now ≤ 100000 := by have := HNW.out.2; omega
                    have hjs : j ≤ 4 := by omega
                    have hlen : (out ++ noted a o x.f2 x.f3.f1 j).length = out.length + j := by rw [List.length_append, noted_len]
                    have HLen := Lib.hid (show (out ++ noted a o x.f2 x.f3.f1 j).length ≤ 132 by have := HOL.out; omega)
                    clear g1 g2 hlen z0 z1 z2 z3 z4 y2 y3 y4
                    by_cases hlt2 : j < tt
                    · obtain ⟨u0, u1, u2, u3, u4⟩ := u
                      have HOJ := Lib.hid (show out ++ noted a o x.f2 x.f3.f1 (j + 1) = (out ++ noted a o x.f2 x.f3.f1 j) ++ [⟨(o : Int), x.f2, a.now + x.f3.f1 % 8 + (j : Int)⟩] by rw [noted_succ, List.append_assoc])
                      generalize out ++ noted a o x.f2 x.f3.f1 j = oj at *
                      have hol := HLen.out
                      have HDue := Lib.hid (due_eq (j := j) hnw0 hnw1 hd0' hjs)
                      go_wp2_with fail
                      go_region_held_law (fun w' => w'.cell? ⟨(ad.add (k * 5)).block, (ad.add (k * 5)).off + 2, none⟩ = some (.string x.f2) ∧ w'.cell? ⟨(ad.add (k * 5)).block, (ad.add (k * 5)).off + 4, none⟩ = some (.int .u8 x.f3.f1)) (go_keep)
                        (first | (go_at_call 14; refine (a_now _ W.heap.size W.heap.size sa F6 (by exact G1.out.n) HSm.out.most0).mono ?_; rintro e u ⟨rfl, rfl⟩; rw [HI5.out]) | (rw [alloc_drew]; refine step_append_cells (w0 := wr.drew) W.heap.size (by rfl) (.tmp 121) (.tmp 143) 37 41 (.agg #[.int .i64 0, .string { data := #[] }, .int .u64 0]) 3 32 (by rfl) Try.underlying37 info41 rfl (by decide) (by decide) (.slice A7 oj.length c7) oj.length (flat3 oj) [.int .i64 o, .string x.f2, .int .u64 _] (by simp [Act.eval]) (by simp [Act.eval]) rfl (by intro u hu; simp at hu; rcases hu with rfl | rfl | rfl <;> rfl) (by exact G1.out.row) (Below.refl _ _) (by exact G2.out.size) (by omega) ?_; intro v7 w7 hown7 hB7 hg7 hat7; rw [HDue.out] at hown7; have y7 := HCells.out w7 (G2.out.drew.trans hB7); have y72 := y7.2.2.1; have y74 := y7.2.2.2.2; have HOwn7 := Lib.hid hown7; have HB7 := Lib.hid hB7; have HG7 := Lib.hid hg7; have HAt7 := Lib.hid hat7; clear y7 hown7 hB7 hg7 hat7))
                      go_wp2
                      go_roundg (tt - (j + 1))
                      case measure => omega
                      case rel => exact ⟨j + 1, F6, by go_num, by omega, by
                        rw [HOJ.out]
                        refine hon_grown (hon_drew G1.out) (by rw [List.length_append, flat3_append, flat3_one]; exact HOwn7.out) HG7.out (fun k hk => ?_)
                        rcases HAt7.out with e | ⟨b, e, hb⟩
                        · exact Or.inl (e ▸ hk)
                        · rw [e] at hk; cases hk; exact Or.inr hb, G2.out.drew.trans HB7.out⟩
                    · have htj : tt = j := by omega
                      have HTJ := Lib.hid (show Inv (out ++ noted a o x.f2 x.f3.f1 j) sa 10 by rw [← htj]; exact HI4.out)
                      clear htj u
                      generalize out ++ noted a o x.f2 x.f3.f1 j = oj at *
                      go_wp2
                      go_meet
                      case rel => exact ⟨sa, F6, oj, G1.out, by rw [HSL.out]; exact HTJ.out, HSm.out, HMost.out, G2.out⟩
                · obtain ⟨i1, i2, i3⟩ := h_sent_not (a := a) (o := o) hl x.f3.f0 x.f3.f1
                  rw [i1, i2, i3] at HS1
                  have HS2 := Lib.hid HS1
                  clear HS1 i1 i2 i3 HMost HSm
                  have hl' : ¬ ((x.f2.size : Int) ≤ 4102) := by omega
                  go_wp2_with fail
                  go_region_held (fun w' => w'.cell? ⟨(ad.add (k * 5)).block, (ad.add (k * 5)).off + 2, none⟩ = some (.string x.f2) ∧ w'.cell? ⟨(ad.add (k * 5)).block, (ad.add (k * 5)).off + 3, none⟩ = some (.int .u8 x.f3.f0) ∧ w'.cell? ⟨(ad.add (k * 5)).block, (ad.add (k * 5)).off + 4, none⟩ = some (.int .u8 x.f3.f1)) (go_keep)
                    (first | (go_at_call 10; refine (HS2.out).mono ?_; rintro e w5 ⟨rfl, hD5⟩; have h5 := hon_did (hon_drew HH.out.hon) hD5; have hB5 := (HH.out.below.drew).trans h5.2; have HT5 := Lib.hid h5.1; have HB5 := Lib.hid hB5; have y := HCells.out w5 hB5; have y2 := y.2.2.1; have y3 := y.2.2.2.1; have y4 := y.2.2.2.2; clear hD5 h5 hB5 y))
                  obtain ⟨F5, hT5⟩ := HT5.out
                  have HT6 := Lib.hid hT5
                  clear hT5
                  go_wp2
                  refine wp_loop_rounds 1 ?_
                  rw [rounds_succ]
                  go_wp2
                  go_meet
                  case rel => exact ⟨a, F5, out, HT6.out, HH.out.inv, asmall_mono HH.out.small (by omega), HH.out.most, HB5.out⟩
            case rest =>
              obtain ⟨a1, F1, out1, hH1⟩ := hcut
              obtain ⟨A1, c1, rfl⟩ := own_len hH1.hon.row
              clear HH
              go_upto_region 22 with fail
              go_cut [157] from 145 to 157 (fun s157 wx => s157 = .bool (isTick l k) ∧ wc = wx)
              case first => as_aux_lemma =>
                by_cases hact : k < l.length
                · obtain ⟨ad, rfl, hcells⟩ := act_at HC.out hact
                  have hx0 := (HWF.out _ (rd_mem hact)).1
                  have hcs := hcells wc hH1.below
                  have hk1 : isTick l k = ((rd_T30 l k).f0 % 4 == 3) := by
                    unfold isTick kd
                    rw [if_pos hact]
                    by_cases h2 : (rd_T30 l k).f0 % 4 < 2
                    · rw [if_pos h2, show ((rd_T30 l k).f0 % 4 == 3) = false by simp; omega]; rfl
                    · rw [if_neg h2]
                      by_cases h3 : (rd_T30 l k).f0 % 4 = 2
                      · rw [if_pos h3, show ((rd_T30 l k).f0 % 4 == 3) = false by simp; omega]; rfl
                      · rw [if_neg h3, show ((rd_T30 l k).f0 % 4 == 3) = true by simp; omega]; rfl
                  have HK := Lib.hid hk1
                  clear hcells hk1 hH1
                  generalize rd_T30 l k = x at *
                  obtain ⟨z0, z1, z2, z3, z4⟩ := hcs
                  clear z1 z2 z3 z4
                  go_wp2
                  go_meet
                  case rel => exact ⟨by rw [HK.out, decide_eq_false (show ¬ l.length ≤ k by omega)]; rfl, rfl⟩
                · have hk1 : isTick l k = true := by unfold isTick kd; rw [if_neg hact]; rfl
                  have HK := Lib.hid hk1
                  clear hk1 hH1
                  go_wp2
                  go_meet
                  case rel => exact ⟨by rw [HK.out], rfl⟩
              case rest =>
                obtain ⟨rfl, rfl⟩ := hcut
                have HH1 := Lib.hid hH1
                clear hH1
                go_upto_if 157 with fail
                go_cut [] from 157 to 159 (fun wx => ∃ (a2 : AN) (F2 : Nat → Prop), St W wx W.heap.size mo (100 * k + 5) (slk l.length (k + 1)) a2 F2 (.slice A1 out1.length c1) out1)
                case first => as_aux_lemma =>
                  cases htick : isTick l k
                  · have HSL := Lib.hid (show slk l.length (k + 1) = slk l.length k by
                      unfold isTick at htick
                      have h0 := of_decide_eq_false htick
                      have hact : k < l.length := by
                        apply Classical.byContradiction
                        intro hn
                        exact h0 (Or.inl (by unfold kd; rw [if_neg hn]))
                      rw [(slk_act hact).1, (slk_act hact).2])
                    go_wp2
                    go_meet
                    case rel => exact ⟨a1, F1, HH1.out.hon, by rw [HSL.out]; exact HH1.out.inv, asmall_mono HH1.out.small (by omega), HH1.out.most, HH1.out.below⟩
                  · have HSL := Lib.hid (show slk l.length k - 1 ≤ slk l.length (k + 1) by
                      by_cases hact : k < l.length
                      · rw [(slk_act hact).1, (slk_act hact).2]; omega
                      · rw [slk_after (by omega)]; omega)
                    have HK1 := Lib.hid (a_tick wc W.heap.size W.heap.size a1 F1 HH1.out.hon.n (100 * k + 4) HH1.out.small (by omega))
                    go_wp2_with fail
                    refine (HK1.out).mono ?_
                    rintro e w5 ⟨rfl, hD5⟩
                    obtain ⟨⟨F5, hH5⟩, hB5⟩ := hon_did HH1.out.hon hD5
                    have HH5 := Lib.hid hH5
                    have HB5 := Lib.hid (HH1.out.below.trans hB5)
                    clear hD5 hH5 hB5
                    go_wp2
                    go_meet
                    case rel => exact ⟨a1.tick, F5, HH5.out, inv_mono (inv_tick HH1.out.inv) HSL.out, asmall_mono (atick_small HH1.out.small) (by omega), HH1.out.most, HB5.out⟩
                case rest =>
                  obtain ⟨a2, F2, hH2⟩ := hcut
                  have HH2 := Lib.hid hH2
                  clear hH2 HH1
                  go_upto_block 4 with fail
                  go_cut [7] from 160 to 250 (fun s7 wx => ∃ (a3 : AN) (F3 : Nat → Prop) (out3 : List Cp), St W wx W.heap.size mo (100 * k + 75) (slk l.length (k + 1)) a3 F3 s7 out3)
                  case first => as_aux_lemma =>
                    go_wp2_with fail
                    go_loopg [7, 13] 70 (fun gk t7 t13 wx => ∃ (t : Nat) (a3 : AN) (F3 : Nat → Prop) (out3 : List Cp), t13 = .int .i64 t ∧ gk + t = 70 ∧ St W wx W.heap.size mo (100 * k + 5 + t) (slk l.length (k + 1)) a3 F3 t7 out3)
                    case atStart => exact ⟨0, a2, F2, out1, rfl, rfl, HH2.out.hon, HH2.out.inv, asmall_mono HH2.out.small (by omega), HH2.out.most, HH2.out.below⟩
                    case round =>
                      obtain ⟨t, a3, F3, out3, rfl, ht, hH3⟩ := hrel
                      obtain ⟨A3, c3, rfl⟩ := own_len hH3.hon.row
                      have HH3 := Lib.hid hH3
                      clear hH3 HH2
                      go_upto_region 25 with fail
                      go_cut [190] from 160 to 190 (fun s190 wx => s190 = .bool (goesOn l k t) ∧ wr = wx)
                      case first => as_aux_lemma =>
                        by_cases hact : k < l.length
                        · obtain ⟨ad, rfl, hcells⟩ := act_at HC.out hact
                          have hx0 := (HWF.out _ (rd_mem hact)).1
                          have hcs := hcells wr HH3.out.below
                          have hk1 : goesOn l k t = ((rd_T30 l k).f0 % 4 == 2 && decide (t < 1)) := by
                            unfold goesOn kd
                            rw [if_pos hact]
                            by_cases h2 : (rd_T30 l k).f0 % 4 < 2
                            · rw [if_pos h2, show ((rd_T30 l k).f0 % 4 == 2) = false by simp; omega]; simp
                            · rw [if_neg h2]
                              by_cases h3 : (rd_T30 l k).f0 % 4 = 2
                              · rw [if_pos h3, show ((rd_T30 l k).f0 % 4 == 2) = true by simp; omega]; simp
                              · rw [if_neg h3, show ((rd_T30 l k).f0 % 4 == 2) = false by simp; omega]; simp
                          have HK := Lib.hid hk1
                          have hge : decide ((l.length : Int) ≤ (k : Int)) = false := decide_eq_false (by omega)
                          have hgl : decide ((k : Int) < (l.length : Int)) = true := decide_eq_true (by omega)
                          clear hcells hk1
                          generalize rd_T30 l k = x at *
                          obtain ⟨z0, z1, z2, z3, z4⟩ := hcs
                          clear z1 z2 z3 z4
                          by_cases h3 : x.f0 % 4 = 2
                          · have h3b : (x.f0 % 4 == 2) = true := by simp [h3]
                            rw [h3b] at HK
                            by_cases h1 : t < 1
                            · have h1b : decide ((t : Int) < 1) = true := decide_eq_true (by omega)
                              have h7b : decide ((t : Int) < 70) = true := decide_eq_true (by omega)
                              rw [decide_eq_true h1] at HK
                              clear h3
                              go_wp2
                              go_meet
                              case rel => exact ⟨by rw [HK.out]; rfl, rfl⟩
                            · have h1b : decide ((t : Int) < 1) = false := decide_eq_false (by omega)
                              rw [decide_eq_false h1] at HK
                              clear h3
                              by_cases h7 : t < 70
                              · have h7b : decide ((t : Int) < 70) = true := decide_eq_true (by omega)
                                go_wp2
                                go_meet
                                case rel => exact ⟨by rw [HK.out]; rfl, rfl⟩
                              · have h7b : decide ((t : Int) < 70) = false := decide_eq_false (by omega)
                                go_wp2
                                go_meet
                                case rel => exact ⟨by rw [HK.out]; rfl, rfl⟩
                          · have h3b : (x.f0 % 4 == 2) = false := by simp [h3]
                            rw [h3b] at HK
                            by_cases h7 : t < 70
                            · have h7b : decide ((t : Int) < 70) = true := decide_eq_true (by omega)
                              go_wp2
                              go_meet
                              case rel => exact ⟨by rw [HK.out]; rfl, rfl⟩
                            · have h7b : decide ((t : Int) < 70) = false := decide_eq_false (by omega)
                              go_wp2
                              go_meet
                              case rel => exact ⟨by rw [HK.out]; rfl, rfl⟩
                        · have hk1 : goesOn l k t = decide (t < 68) := by unfold goesOn kd; rw [if_neg hact]; simp
                          have HK := Lib.hid hk1
                          have hge : decide ((l.length : Int) ≤ (k : Int)) = true := decide_eq_true (by omega)
                          have hgl : decide ((k : Int) < (l.length : Int)) = false := decide_eq_false (by omega)
                          clear hk1
                          by_cases h8 : t < 68
                          · have h7b : decide ((t : Int) < 70) = true := decide_eq_true (by omega)
                            have h8b : decide ((t : Int) < 68) = true := decide_eq_true (by omega)
                            rw [decide_eq_true h8] at HK
                            go_wp2
                            go_meet
                            case rel => exact ⟨by rw [HK.out], rfl⟩
                          · have h8b : decide ((t : Int) < 68) = false := decide_eq_false (by omega)
                            rw [decide_eq_false h8] at HK
                            by_cases h7 : t < 70
                            · have h7b : decide ((t : Int) < 70) = true := decide_eq_true (by omega)
                              go_wp2
                              go_meet
                              case rel => exact ⟨by rw [HK.out], rfl⟩
                            · have h7b : decide ((t : Int) < 70) = false := decide_eq_false (by omega)
                              go_wp2
                              go_meet
                              case rel => exact ⟨by rw [HK.out], rfl⟩
                      case rest =>
                        obtain ⟨rfl, rfl⟩ := hcut
                        cases hgo : goesOn l k t
                        · clear hgo
                          go_wp2
                          go_meet
                          case rel => exact ⟨a3, F3, out3, HH3.out.hon, HH3.out.inv, asmall_mono HH3.out.small (by omega), HH3.out.most, HH3.out.below⟩
                        · have ht68 : t < 68 := by
                            unfold goesOn at hgo
                            have := of_decide_eq_true hgo
                            omega
                          clear hgo
                          cases hr : aready a3 o
                          · have HR := Lib.hid (a_recv_not wr W.heap.size W.heap.size a3 F3 HH3.out.hon.n HH3.out.small.most0 o ho hr)
                            clear hr
                            go_wp2_with fail
                            refine (HR.out).mono ?_
                            rintro e u ⟨rfl, m', rfl⟩
                            go_wp2
                            go_meet
                            case rel => exact ⟨a3, F3, out3, hon_drewN HH3.out.hon m', HH3.out.inv, asmall_mono HH3.out.small (by omega), HH3.out.most, pw_below_drewN HH3.out.below m'⟩
                          · have HR := Lib.hid (a_recv wr W.heap.size W.heap.size a3 F3 HH3.out.hon.n (100 * k + 5 + t) HH3.out.small (by omega) o ho hr)
                            obtain ⟨b, hb, hseek, hinv⟩ := seek_found HH3.out.inv o ho hr
                            have HSeek := Lib.hid hseek
                            have HInv := Lib.hid hinv
                            have HSm3 := Lib.hid (asmall_mono (arecv_small HH3.out.small o) (show (100 * k + 5 + t + 1 : Int) ≤ 100 * k + 5 + ((t + 1 : Nat) : Int) by omega))
                            have HMo3 := Lib.hid (show (arecv a3 o).most = mo from HH3.out.most)
                            have HOl := Lib.hid (inv_few HH3.out.inv HH3.out.small)
                            have HNw := Lib.hid (show (arecv a3 o).now = a3.now from rfl)
                            clear hr hseek hinv
                            go_wp2_with fail
                            refine (HR.out).mono ?_
                            rintro e w5 ⟨rfl, hD5⟩
                            obtain ⟨⟨F5, hH5⟩, hB5⟩ := hon_did HH3.out.hon hD5
                            have HH5 := Lib.hid hH5
                            have HB5 := Lib.hid (HH3.out.below.trans hB5)
                            clear hD5 hH5 hB5
                            generalize atop a3 o = s at *
                            generalize arecv a3 o = ar at *
                            generalize a3.now = T at *
                            go_upto_block 6 with fail
                            go_cut [16] from 201 to 237 (fun s16 wx => s16 = .int .i64 b ∧ ∃ mm, wx = w5.drewN mm)
                            case first => as_aux_lemma =>
                              go_wp2_with fail
                              go_loopg [16, 17] out3.length (fun gk t16 t17 wx => ∃ j : Nat, t17 = .int .i64 j ∧ gk + j = out3.length ∧ t16 = .int .i64 (seek out3 o s T j) ∧ ∃ mm, wx = w5.drewN mm)
                              case atStart => exact ⟨0, rfl, by omega, rfl, 0, rfl⟩
                              case round =>
                                obtain ⟨j, rfl, hj, rfl, mm, rfl⟩ := hrel
                                have hol := HOl.out
                                rcases seek_spec out3 o s T j (by omega) with ⟨hm1, _⟩ | ⟨b2, hb2, hlt2, _⟩
                                · rw [hm1]
                                  by_cases hjl : j < out3.length
                                  · obtain ⟨bk, cap, hv, hcap, hcell⟩ := hon_cells HH5.out (by omega)
                                    cases hv
                                    obtain ⟨x1, x2, x3⟩ := hcell j hjl
                                    have hstep : seek out3 o s T (j + 1) = if hitO o s T (out3.getD j Hp.c0) = true then (j : Int) else -1 := by rw [seek, hm1, if_pos (by omega)]
                                    have y1 : (w5.drewN mm).cell? ⟨bk, j * 3, none⟩ = some (.int .i64 (out3.getD j Hp.c0).way) := x1
                                    have y2 : (w5.drewN mm).cell? ⟨bk, j * 3 + 1, none⟩ = some (.string (out3.getD j Hp.c0).bytes) := x2
                                    have y3 : (w5.drewN mm).cell? ⟨bk, j * 3 + 2, none⟩ = some (.int .u64 (out3.getD j Hp.c0).due) := x3
                                    have HNow := Lib.hid (fun n => a_now ((w5.drewN mm).drewN n) W.heap.size W.heap.size ar F5 HH5.out.n HSm3.out.most0)
                                    rw [HNw.out] at HNow
                                    have HStep := Lib.hid hstep
                                    have hj0 : (j : Int) < (out3.length : Int) := by omega
                                    clear hcell x1 x2 x3 hstep hm1
                                    generalize hwq : w5.drewN mm = wq at y1 y2 y3 HNow ⊢
                                    have HWq := Lib.hid hwq
                                    clear hwq
                                    generalize out3.getD j Hp.c0 = cj at *
                                    by_cases hw : cj.way = (o : Int)
                                    · have hwb : (cj.way == (o : Int)) = true := by simp [hw]
                                      have HW1 := Lib.hid hw
                                      clear hw
                                      by_cases hs : cj.bytes = s
                                      · have hsb : (cj.bytes.toList == s.toList) = true := ba_eq _ _ hs
                                        have HS1 := Lib.hid hs
                                        clear hs
                                        by_cases hd : cj.due ≤ T
                                        · have hdb : decide (cj.due ≤ T) = true := decide_eq_true hd
                                          have HY := Lib.hid (show seek out3 o s T (j + 1) = (j : Int) by rw [HStep.out, show hitO o s T cj = true from by unfold hitO; rw [decide_eq_true HW1.out, decide_eq_true HS1.out, hdb]; rfl]; rfl)
                                          clear HStep
                                          go_wp2
                                          go_quiet (first | (go_at_call 14; exact Calls.quiet_of_same ((HNow.out _).mono fun e w' h => ⟨h.1, h.2.symm⟩)))
                                          go_wp2
                                          go_roundg (out3.length - (j + 1))
                                          case measure => omega
                                          case rel => exact ⟨j + 1, by go_num, by omega, by rw [HY.out], mm + nq, by rw [← HWq.out, World.drewN_drewN]⟩
                                        · have hdb : decide (cj.due ≤ T) = false := decide_eq_false hd
                                          have HY := Lib.hid (show seek out3 o s T (j + 1) = -1 by rw [HStep.out, show hitO o s T cj = false from by unfold hitO; rw [hdb, Bool.and_false, Bool.and_false]]; rfl)
                                          clear HStep
                                          go_wp2
                                          go_quiet (first | (go_at_call 14; exact Calls.quiet_of_same ((HNow.out _).mono fun e w' h => ⟨h.1, h.2.symm⟩)))
                                          go_wp2
                                          go_roundg (out3.length - (j + 1))
                                          case measure => omega
                                          case rel => exact ⟨j + 1, by go_num, by omega, by rw [HY.out], mm + nq, by rw [← HWq.out, World.drewN_drewN]⟩
                                      · have hsb : (cj.bytes.toList == s.toList) = false := ba_ne _ _ hs
                                        have HY := Lib.hid (show seek out3 o s T (j + 1) = -1 by rw [HStep.out, show hitO o s T cj = false from by unfold hitO; rw [decide_eq_false hs, Bool.false_and, Bool.and_false]]; rfl)
                                        clear HStep
                                        go_wp2
                                        go_quiet (first | (go_at_call 14; exact Calls.quiet_of_same ((HNow.out _).mono fun e w' h => ⟨h.1, h.2.symm⟩)))
                                        go_wp2
                                        go_roundg (out3.length - (j + 1))
                                        case measure => omega
                                        case rel => exact ⟨j + 1, by go_num, by omega, by rw [HY.out], mm + nq, by rw [← HWq.out, World.drewN_drewN]⟩
                                    · have hwb : (cj.way == (o : Int)) = false := by simp [hw]
                                      have HY := Lib.hid (show seek out3 o s T (j + 1) = -1 by rw [HStep.out, show hitO o s T cj = false from by unfold hitO; rw [decide_eq_false hw, Bool.false_and]]; rfl)
                                      clear HStep
                                      go_wp2
                                      go_quiet (first | (go_at_call 14; exact Calls.quiet_of_same ((HNow.out _).mono fun e w' h => ⟨h.1, h.2.symm⟩)))
                                      go_wp2
                                      go_roundg (out3.length - (j + 1))
                                      case measure => omega
                                      case rel => exact ⟨j + 1, by go_num, by omega, by rw [HY.out], mm + nq, by rw [← HWq.out, World.drewN_drewN]⟩
                                  · exfalso
                                    have := HSeek.out
                                    rw [show out3.length = j by omega, hm1] at this
                                    omega
                                · have hbb : b2 = b := by
                                    have h8 := seek_stays hb2 (out3.length - j)
                                    rw [show j + (out3.length - j) = out3.length by omega, HSeek.out] at h8
                                    omega
                                  subst hbb
                                  rw [hb2]
                                  have hb0 : ¬ ((b2 : Int) < 0) := by omega
                                  by_cases hjl : (j : Int) < (out3.length : Int)
                                  · go_wp2
                                    go_meet
                                    case rel => exact ⟨rfl, mm, rfl⟩
                                  · go_wp2
                                    go_meet
                                    case rel => exact ⟨rfl, mm, rfl⟩
                            case rest =>
                              obtain ⟨rfl, mm, rfl⟩ := hcut
                              have hHm := hon_drewN HH5.out mm
                              obtain ⟨bk, cap, hv, hcap, hcell⟩ := hon_cells hHm (by omega)
                              cases hv
                              have HM := Lib.hid hHm
                              have hol := HOl.out
                              have HBm := Lib.hid (pw_below_drewN HB5.out mm)
                              clear hHm hcell
                              generalize w5.drewN mm = w4 at *
                              have hbase : W.heap.size ≤ w4.heap.size := HBm.out.size
                              have hfl : (b : Int) + 1 ≤ (out3.length : Int) := by omega
                              have hb0 : ¬ ((b : Int) < 0) := by omega
                              obtain ⟨bo, hbb⟩ : ∃ bo, w4.heap[bk]? = some bo := by
                                rcases HM.out.row.2 with ⟨h', _⟩ | ⟨g', cap', cur, hv', _, hh, _⟩
                                · cases h'
                                · cases hv'; exact ⟨_, hh⟩
                              have HBB := Lib.hid hbb
                              have hnw : ∀ j u, (flat3 (out3.drop (b + 1)))[j]? = some u → w4.cell? ((⟨bk, (b + 1) * 3, none⟩ : Addr).add j) = some u := by
                                intro j u hu
                                have h9 := HM.out.row.cells rfl ((b + 1) * 3 + j) u (by
                                  rw [← flat3_drop, List.getElem?_drop] at hu
                                  exact hu)
                                have e9 : (⟨bk, 0, none⟩ : Addr).add ((b + 1) * 3 + j) = (⟨bk, (b + 1) * 3, none⟩ : Addr).add j := addr_add3 _ _ _
                                rw [← e9]; exact h9
                              have HNw9 := Lib.hid hnw
                              clear hbb hnw
                              by_cases hcf : c3 = b + 1
                              · have HLen := Lib.hid (show out3.length = b + 1 by omega)
                                have hcT : (c3 = b + 1) = True := eq_true hcf
                                clear hcf
                                go_wp2_with (first | ((with_reducible refine gate_builtin (b := .append) (xs := #[.tmp 240, .tmp 243]) rfl ?_); at_builtin; refine app_rows (w0 := w4) W.heap.size rfl (.tmp 240) (.tmp 243) 37 41 (.agg #[.int .i64 0, .string { data := #[] }, .int .u64 0]) 3 32 rfl Try.underlying37 info41 rfl (by decide) (by decide) (.slice none 0 0) 0 [] ⟨bk, 0, none⟩ b c3 (flat3 (out3.take b)) rfl rfl ?aL ?aN (flat3_ones _) (World.ownsRow_nil _ _ _ _) (Below.refl _ _) hbase (by omega) ?_; (case aL => rw [flat3_len, List.length_take]; omega); (case aN => intro j u hu; exact HM.out.row.cells rfl j u (by rw [← List.take_append_drop b out3, flat3_append, List.getElem?_append_left (List.getElem?_eq_some_iff.1 hu).1]; exact hu)); intro v6 w6 hown6 hB6 hg6 hat6; obtain ⟨A6, c6, hv6⟩ := own_len hown6; subst hv6; simp only [List.nil_append, Nat.zero_add] at hown6 hg6 hat6; have HOwn6 := Lib.hid hown6; have HB6 := Lib.hid hB6; have HG6 := Lib.hid hg6; have HAt6 := Lib.hid hat6; clear hown6 hB6 hg6 hat6) | ((with_reducible refine gate_builtin (b := .append) (xs := #[.tmp 245, .tmp 249]) rfl ?_); at_builtin; refine app_rows (w0 := w4) W.heap.size rfl (.tmp 245) (.tmp 249) 37 41 (.agg #[.int .i64 0, .string { data := #[] }, .int .u64 0]) 3 32 rfl Try.underlying37 info41 rfl (by decide) (by decide) (.slice A6 b c6) b (flat3 (out3.take b)) ⟨bk, 0, none⟩ (out3.length - (b + 1)) (c3 - (b + 1)) (flat3 (out3.drop (b + 1))) rfl rfl ?bL ?bN (flat3_ones _) (by exact HOwn6.out) (by exact HB6.out) (by exact Nat.le_trans hbase HG6.out.size) (by omega) ?_; (case bL => rw [flat3_len, List.length_drop]); (case bN => intro j u hu; rw [List.drop_eq_nil_of_le (by have := HLen.out; omega)] at hu; simp [flat3] at hu); intro v7 w7 hown7 hB7 hg7 hat7; have HOwn7 := Lib.hid hown7; have HB7 := Lib.hid hB7; have HG7 := Lib.hid hg7; have HAt7 := Lib.hid hat7; clear hown7 hB7 hg7 hat7))
                                go_roundg (70 - (t + 1))
                                case measure => omega
                                case rel => exact ⟨t + 1, ar, F5, out3.eraseIdx b, by go_num, by omega, hon_fresh HM.out HG6.out HAt6.out HG7.out HAt7.out (by rw [List.length_eraseIdx_of_lt hb, List.eraseIdx_eq_take_drop_succ, flat3_append, show out3.length - 1 = b + (out3.length - (b + 1)) by omega]; exact HOwn7.out), HInv.out, HSm3.out, HMo3.out, HBm.out.trans HB7.out⟩
                              · have hcF : (c3 = b + 1) = False := eq_false hcf
                                clear hcf
                                go_wp2_with (first | ((with_reducible refine gate_builtin (b := .append) (xs := #[.tmp 240, .tmp 243]) rfl ?_); at_builtin; refine app_rows (w0 := w4) W.heap.size rfl (.tmp 240) (.tmp 243) 37 41 (.agg #[.int .i64 0, .string { data := #[] }, .int .u64 0]) 3 32 rfl Try.underlying37 info41 rfl (by decide) (by decide) (.slice none 0 0) 0 [] ⟨bk, 0, none⟩ b c3 (flat3 (out3.take b)) rfl rfl ?aL ?aN (flat3_ones _) (World.ownsRow_nil _ _ _ _) (Below.refl _ _) hbase (by omega) ?_; (case aL => rw [flat3_len, List.length_take]; omega); (case aN => intro j u hu; exact HM.out.row.cells rfl j u (by rw [← List.take_append_drop b out3, flat3_append, List.getElem?_append_left (List.getElem?_eq_some_iff.1 hu).1]; exact hu)); intro v6 w6 hown6 hB6 hg6 hat6; obtain ⟨A6, c6, hv6⟩ := own_len hown6; subst hv6; simp only [List.nil_append, Nat.zero_add] at hown6 hg6 hat6; have HOwn6 := Lib.hid hown6; have HB6 := Lib.hid hB6; have HG6 := Lib.hid hg6; have HAt6 := Lib.hid hat6; clear hown6 hB6 hg6 hat6) | ((with_reducible refine gate_builtin (b := .append) (xs := #[.tmp 245, .tmp 249]) rfl ?_); at_builtin; refine app_rows (w0 := w4) W.heap.size rfl (.tmp 245) (.tmp 249) 37 41 (.agg #[.int .i64 0, .string { data := #[] }, .int .u64 0]) 3 32 rfl Try.underlying37 info41 rfl (by decide) (by decide) (.slice A6 b c6) b (flat3 (out3.take b)) ⟨bk, (b + 1) * 3, none⟩ (out3.length - (b + 1)) (c3 - (b + 1)) (flat3 (out3.drop (b + 1))) rfl rfl ?bL ?bN (flat3_ones _) (by exact HOwn6.out) (by exact HB6.out) (by exact Nat.le_trans hbase HG6.out.size) (by omega) ?_; (case bL => rw [flat3_len, List.length_drop]); (case bN => intro j u hu; refine (World.cell?_of_block ?_).trans (HNw9.out j u hu); rw [show ((⟨bk, (b + 1) * 3, none⟩ : Addr).add j).block = bk from addr_blk _ _ _]; exact HG6.out.block bk (blk_lt HBB.out) (by simp [Value.ownBlock])); intro v7 w7 hown7 hB7 hg7 hat7; have HOwn7 := Lib.hid hown7; have HB7 := Lib.hid hB7; have HG7 := Lib.hid hg7; have HAt7 := Lib.hid hat7; clear hown7 hB7 hg7 hat7))
                                go_roundg (70 - (t + 1))
                                case measure => omega
                                case rel => exact ⟨t + 1, ar, F5, out3.eraseIdx b, by go_num, by omega, hon_fresh HM.out HG6.out HAt6.out HG7.out HAt7.out (by rw [List.length_eraseIdx_of_lt hb, List.eraseIdx_eq_take_drop_succ, flat3_append, show out3.length - 1 = b + (out3.length - (b + 1)) by omega]; exact HOwn7.out), HInv.out, HSm3.out, HMo3.out, HBm.out.trans HB7.out⟩
                  case rest =>
                    obtain ⟨a3, F3, out3, hH3⟩ := hcut
                    obtain ⟨A3, c3, rfl⟩ := own_len hH3.hon.row
                    have HH3 := Lib.hid hH3
                    clear hH3 HH2
                    have q1 := a_waiting wc W.heap.size W.heap.size a3 F3 HH3.out.hon.n HH3.out.small.most0 0
                    have q2 := a_waiting wc W.heap.size W.heap.size a3 F3 HH3.out.hon.n HH3.out.small.most0 1
                    have e1 : awaits a3 0 = ((a3.L 0).length : Int) := rfl
                    have e2 : awaits a3 1 = ((a3.L 1).length : Int) := rfl
                    rw [e1] at q1
                    rw [e2] at q2
                    have hq0 := HH3.out.small.q 0 (by omega)
                    have hq1 := HH3.out.small.q 1 (by omega)
                    have hmo := HH3.out.most
                    rw [hmo] at hq0 hq1
                    have hsum : ((a3.L 0).length : Int) + ((a3.L 1).length : Int) = (out3.length : Int) := by have := HH3.out.inv.len; omega
                    have hq0' : ¬ mo < ((a3.L 0).length : Int) := by omega
                    have hq1' : ¬ mo < ((a3.L 1).length : Int) := by omega
                    have Q1 := Lib.hid q1
                    have Q2 := Lib.hid q2
                    clear q1 q2 e1 e2 hq0 hq1 hmo
                    generalize (a3.L 0).length = n0 at *
                    generalize (a3.L 1).length = n1 at *
                    go_wp2_with fail
                    refine (Q1.out).mono ?_
                    rintro e u ⟨rfl, rfl⟩
                    go_wp2_with fail
                    refine (Q2.out).mono ?_
                    rintro e u ⟨rfl, rfl⟩
                    go_wp2_with fail
                    refine (Q1.out).mono ?_
                    rintro e u ⟨rfl, rfl⟩
                    go_wp2_with fail
                    refine (Q2.out).mono ?_
                    rintro e u ⟨rfl, rfl⟩
                    go_wp2
                    go_roundg (gk - 1)
                    case measure => omega
                    case rel => exact ⟨k + 1, a3, F3, out3, by go_num, by omega, HH3.out.hon, HH3.out.inv, asmall_mono HH3.out.small (by omega), HH3.out.most, HH3.out.below⟩
      · as_aux_lemma =>
        have hdf : decide ((k : Int) < (l.length : Int) + 20) = false := decide_eq_false (by omega)
        have HI0 : AllDue a := alldue_of HH.out.inv (by rw [show k = l.length + 20 by omega, slk_end]; omega)
        have HD0 := Lib.hid HI0
        clear HI0
        go_wp2_with fail
        go_loopg [19] 2 (fun gk t19 wx => ∃ (i : Nat) (a1 : AN) (F1 : Nat → Prop), t19 = .int .i64 i ∧ gk + i = 2 ∧ IsA wx W.heap.size W.heap.size a1 F1 ∧ ASmall a1 (17000 + 100 * i) ∧ AllDue a1 ∧ (∀ p : Nat, p < i → (a1.L p).length = 0) ∧ Below W.heap.size W wx)
        case atStart => exact ⟨0, a, F, rfl, rfl, HH.out.hon.n, asmall_mono HH.out.small (by omega), HD0.out, fun p hp => by omega, HH.out.below⟩
        case round =>
          obtain ⟨i, a1, F1, rfl, hi, g1, g2, g3, g4, g5⟩ := hrel
          have G1 := Lib.hid g1
          have G2 := Lib.hid g2
          have G3 := Lib.hid g3
          have G4 := Lib.hid g4
          have G5 := Lib.hid g5
          clear g1 g2 g3 g4 g5
          by_cases hi2 : i < 2
          · have hdi : decide ((i : Int) < 2) = true := decide_eq_true (by omega)
            go_wp2_with fail
            go_loopg [20] 70 (fun gk2 t20 wy => ∃ (t : Nat) (a2 : AN) (F2 : Nat → Prop), t20 = .int .i64 t ∧ gk2 + t = 70 ∧ IsA wy W.heap.size W.heap.size a2 F2 ∧ ASmall a2 (17000 + 100 * i + t) ∧ AllDue a2 ∧ (∀ p : Nat, p < i → (a2.L p).length = 0) ∧ Below W.heap.size W wy ∧ (a2.L i).length + t ≤ 64)
            case atStart => exact ⟨0, a1, F1, rfl, rfl, G1.out, asmall_mono G2.out (by omega), G3.out, G4.out, G5.out, by have := G2.out.q i hi2; have := G2.out.most; omega⟩
            case round =>
              obtain ⟨t, a2, F2, rfl, ht, g1, g2, g3, g4, g5, g6⟩ := hrel
              have ht70 : t < 70 := by omega
              have J1 := Lib.hid g1
              have J2 := Lib.hid g2
              have J3 := Lib.hid g3
              have J4 := Lib.hid g4
              have J5 := Lib.hid g5
              clear g1 g2 g3 g4 g5
              cases hr : aready a2 i
              · have HR := Lib.hid (a_recv_not wr W.heap.size W.heap.size a2 F2 J1.out J2.out.most0 i hi2 hr)
                have hl0 : (a2.L i).length = 0 := by
                  have := alldue_ready J3.out i hi2
                  rw [hr] at this
                  have := of_decide_eq_false this.symm
                  omega
                have HL0 := Lib.hid hl0
                clear hl0 hr
                go_wp2_with fail
                refine (HR.out).mono ?_
                rintro e u ⟨rfl, m', rfl⟩
                go_wp2
                go_roundg (1 - i)
                case measure => omega
                case rel => exact ⟨i + 1, a2, F2, by go_num, by omega, isa_drewN J1.out m', asmall_mono J2.out (by omega), J3.out, fun p hp => by
                  by_cases e : p = i
                  · rw [e]; exact HL0.out
                  · exact J4.out p (by omega), pw_below_drewN J5.out m'⟩
              · have HR := Lib.hid (a_recv wr W.heap.size W.heap.size a2 F2 J1.out (17000 + 100 * i + t) J2.out (by omega) i hi2 hr)
                have HRL := Lib.hid (recv_len hr)
                clear hr
                go_wp2_with fail
                refine (HR.out).mono ?_
                rintro e w5 ⟨rfl, F5, k1, k2, k3, k4⟩
                have K1 := Lib.hid k1
                have K4 := Lib.hid (J5.out.trans k4)
                clear k1 k2 k3 k4
                go_wp2
                go_roundg (69 - t)
                case measure => omega
                case rel => exact ⟨t + 1, arecv a2 i, F5, by go_num, by omega, K1.out, asmall_mono (arecv_small J2.out i) (by omega), alldue_recv J3.out i, fun p hp => by rw [HRL.out.2 p (by omega)]; exact J4.out p hp, K4.out, by have := HRL.out.1; omega⟩
          · have i2 : i = 2 := by omega
            subst i2
            have e1 : awaits a1 0 = 0 := by unfold awaits; rw [if_pos (by omega)]; show ((a1.L 0).length : Int) = 0; rw [G4.out 0 (by omega)]; rfl
            have e2 : awaits a1 1 = 0 := by unfold awaits; rw [if_pos (by omega)]; show ((a1.L 1).length : Int) = 0; rw [G4.out 1 (by omega)]; rfl
            have q1 := a_waiting wr W.heap.size W.heap.size a1 F1 G1.out G2.out.most0 0
            have q2 := a_waiting wr W.heap.size W.heap.size a1 F1 G1.out G2.out.most0 1
            rw [e1] at q1
            rw [e2] at q2
            have Q1 := Lib.hid q1
            have Q2 := Lib.hid q2
            clear q1 q2 e1 e2
            go_wp2_with fail
            refine (Q1.out).mono ?_
            rintro e u ⟨rfl, hw⟩
            obtain rfl := hw.symm
            clear hw
            go_wp2_with fail
            refine (Q2.out).mono ?_
            rintro e u ⟨rfl, hw⟩
            obtain rfl := hw.symm
            clear hw
            go_wp2_with fail
            refine (works_calls _).mono ?_
            rintro e w6 ⟨rfl, hB6⟩
            go_wp2
            go_ret
            exact ⟨rfl, G5.out.trans (hB6.mono G5.out.size)⟩
end Go.Proofs.Ytjdehmclcdiijaa.Hp
