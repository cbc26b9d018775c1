/- NetworkApart: the walk. -/
import Derived.Test.YtjdehmclcdiijaaHn
import Derived.Deep.RegionHeld
set_option linter.unusedVariables false
namespace Go.Proofs.Ytjdehmclcdiijaa.Hp
open Go.RowKit Go.Proofs.YtjdehmclcdiijaaW.PrintWords Go.Proofs.YtjdehmclcdiijaaW.PrintLast Go.Proofs.YtjdehmclcdiijaaW.PrintMore Go.Proofs.Ytjdehmclcdiijaa.PNetworkApart

/-- Of two networks: the first one's way 0 is the second one's; the second one's way 1 is empty. -/
structure Alike0 (a b : AN) : Prop where
  most : a.most = b.most
  now : a.now = b.now
  q0 : a.L 0 = b.L 0
  q1 : b.L 1 = []
theorem alike_sendTo {a b : AN} (h : Alike0 a b) (bytes : ByteArray) (d : Int) : ∀ k : Nat, Alike0 (asendTo a 0 bytes d k).1 (asendTo b 0 bytes d k).1 ∧ (asendTo a 0 bytes d k).2 = (asendTo b 0 bytes d k).2
  | 0 => ⟨h, rfl⟩
  | k + 1 => by
    obtain ⟨i, e⟩ := alike_sendTo h bytes d k
    rw [asendTo, asendTo, i.most, i.q0, i.now, e]
    split
    · exact ⟨⟨i.most, i.now, i.q0, i.q1⟩, rfl⟩
    · exact ⟨⟨i.most, i.now, by simp [AN.setL], by simp only [AN.setL]; exact i.q1⟩, rfl⟩
theorem alike_send {a b : AN} (h : Alike0 a b) (bytes : ByteArray) (c d : Int) : Alike0 (aSend a 0 bytes c d) (aSend b 0 bytes c d) ∧ aSendK a 0 bytes c d = aSendK b 0 bytes c d := by
  unfold aSend aSendK
  split
  · exact alike_sendTo (a := asend1 a c) (b := asend1 b c) ⟨h.most, h.now, h.q0, h.q1⟩ bytes d _
  · exact ⟨h, rfl⟩
theorem sendTo_other (a : AN) (bytes : ByteArray) (d : Int) : ∀ k : Nat, (asendTo a 1 bytes d k).1.L 0 = a.L 0 ∧ (asendTo a 1 bytes d k).1.most = a.most ∧ (asendTo a 1 bytes d k).1.now = a.now
  | 0 => ⟨rfl, rfl, rfl⟩
  | k + 1 => by
    have i := sendTo_other a bytes d k
    rw [asendTo]
    split
    · exact i
    · exact i
theorem alike_send1 {a b : AN} (h : Alike0 a b) (bytes : ByteArray) (c d : Int) : Alike0 (aSend a 1 bytes c d) b := by
  unfold aSend
  split
  · have i := sendTo_other (asend1 a c) bytes d (c % 4).toNat
    exact ⟨i.2.1.trans h.most, i.2.2.trans h.now, i.1.trans h.q0, h.q1⟩
  · exact h
theorem alike_got {a b : AN} (h : Alike0 a b) : agot a 0 = agot b 0 ∧ Alike0 (agotS a 0) (agotS b 0) := by
  have e : aready a 0 = aready b 0 := by unfold aready; rw [h.q0, h.now]
  unfold agot agotS
  rw [e]
  split
  · refine ⟨by unfold atop; rw [h.q0], ⟨h.most, h.now, by simp [arecv, AN.setL, h.q0], by simp only [arecv, AN.setL]; exact h.q1⟩⟩
  · exact ⟨rfl, h⟩
theorem alike_got1 {a b : AN} (h : Alike0 a b) : Alike0 (agotS a 1) b := by
  unfold agotS
  split
  · exact ⟨h.most, h.now, by simp only [arecv, AN.setL]; exact h.q0, h.q1⟩
  · exact h
theorem alike_tick {a b : AN} (h : Alike0 a b) : Alike0 a.tick b.tick := ⟨h.most, by simp only [AN.tick]; rw [h.now], h.q0, h.q1⟩

theorem two_drew {w : World} {base g1 g2 : Nat} {a b : AN} {Fa Fb : Nat → Prop} (h : Two w base g1 g2 a b Fa Fb) : Two w.drew base g1 g2 a b Fa Fb := ⟨h.l, h.r, h.apart⟩
theorem two_drewN {w : World} {base g1 g2 : Nat} {a b : AN} {Fa Fb : Nat → Prop} (h : Two w base g1 g2 a b Fa Fb) (m : Nat) : Two (w.drewN m) base g1 g2 a b Fa Fb := ⟨h.l, h.r, h.apart⟩
theorem rd_mem {l : List S30} {k : Nat} (h : k < l.length) : rd_T30 l (k : Int) ∈ l := by
  unfold rd_T30
  rw [Int.toNat_natCast, List.getD_eq_getElem?_getD, List.getElem?_eq_getElem h, Option.getD_some]
  exact List.getElem_mem h
theorem way_mod (n : Int) : (wrap64 (n.tmod 2 + 2)).tmod 2 = 0 ∨ (wrap64 (n.tmod 2 + 2)).tmod 2 = 1 := by
  have h1 : -2 < n.tmod 2 := by
    have := Int.lt_tmod_of_pos n (show (0 : Int) < 2 by omega); omega
  have h2 : n.tmod 2 < 2 := Int.tmod_lt_of_pos n (by omega)
  rw [show wrap64 (n.tmod 2 + 2) = n.tmod 2 + 2 by unfold wrap64; omega]
  generalize n.tmod 2 = t at *
  rcases (by omega : t = -1 ∨ t = 0 ∨ t = 1) with rfl | rfl | rfl <;> decide

set_option maxHeartbeats 4000000 in
set_option maxRecDepth 100000 in
theorem apart_calls (most : Int) (hm0 : 0 ≤ most) (hm1 : most < 256) (A0 : Option Addr) (c0 : Nat) (l : List S30) (W : World) (hr0 : Kd.C k30 W A0 l.length l) (hc0 : l.length ≤ c0) (hwf : ∀ x ∈ l, 0 ≤ x.f0 ∧ x.f0 < 256 ∧ 0 ≤ x.f3.f0 ∧ x.f3.f0 < 256 ∧ 0 ≤ x.f3.f1 ∧ x.f3.f1 < 256) :
    Calls Try.prog 3 #[.int .u8 most, .slice A0 l.length c0] W fun e w' => e = .returned (.bool true) ∧ Below W.heap.size W w' := by
  have HC := Lib.hid hr0
  have hmm : (1 : Int) ≤ 1 + most % 64 := by omega
  have hmm2 : 1 + most % 64 ≤ 64 := by omega
  have HN1 := Lib.hid (a_new W W.heap.size (Nat.le_refl _) (1 + most % 64) hmm hmm2)
  go_enter Try.func3, Try.ntmps3
  go_wp2_with fail
  refine (HN1.out).mono ?_
  rintro e w1 ⟨rfl, hA1, hK1, hB1⟩
  have HA1 := Lib.hid hA1
  have HB1 := Lib.hid hB1
  have HN2 := Lib.hid (a_new w1 W.heap.size hB1.size (1 + most % 64) hmm hmm2)
  clear hA1 hK1 hB1
  go_wp2_with fail
  refine (HN2.out).mono ?_
  rintro e w2 ⟨rfl, hA2, hK2, hB2⟩
  have HTwo := Lib.hid (show Two w2 W.heap.size W.heap.size w1.heap.size (afresh (1 + most % 64)) (afresh (1 + most % 64)) (fun k => k = W.heap.size) (fun k => k = w1.heap.size) from
    ⟨isa_kept HA1.out hK2 (fun _ _ hf => hf), hA2, by rintro k rfl e; have := ((isa_foot HA1.out).2 _ rfl).2; omega⟩)
  have HB2 := Lib.hid (HB1.out.trans hB2)
  clear hA2 hK2 hB2
  obtain ⟨r, hr150, HF⟩ := few_calls A0 c0 l w2 (Kd.C_below HC.out HB2.out) hc0
  have HFew := Lib.hid HF
  clear HF
  go_wp2_with fail
  refine (HFew.out).mono ?_
  rintro e w3 ⟨rfl, m, rfl⟩
  cases r
  · go_wp2_with fail
    refine (works_calls _).mono ?_
    rintro e w4 ⟨rfl, hB4⟩
    go_wp2
    go_ret
    exact ⟨rfl, (pw_below_drewN HB2.out m).trans (hB4.mono (by exact HB2.out.size))⟩
  · have hl150 := hr150 rfl
    go_wp2
    go_loopw [7] (fun i wr => ∃ (k : Nat) (a b : AN) (Fa Fb : Nat → Prop), i = .int .i64 k ∧ k ≤ l.length ∧ Two wr W.heap.size W.heap.size w1.heap.size a b Fa Fb ∧ Alike0 a b ∧ ASmall a (8 * k) ∧ ASmall b (8 * k) ∧ Below W.heap.size W wr) (fun i _ => l.length - (intOf i).toNat)
    case atStart =>
      have hs := afresh_small (most := 1 + most % 64) (by omega) hmm2
      exact ⟨0, _, _, _, _, rfl, by omega, two_drewN HTwo.out m, ⟨rfl, rfl, rfl, rfl⟩, asmall_mono hs (by omega), asmall_mono hs (by omega), pw_below_drewN HB2.out m⟩
    case round =>
      obtain ⟨k, a, b, Fa, Fb, rfl, hk, hT, hAl, hSa, hSb, hB⟩ := hrel
      have HT := Lib.hid hT
      have HAl := Lib.hid hAl
      have HSa := Lib.hid hSa
      have HSb := Lib.hid hSb
      have HB := Lib.hid hB
      clear hT hAl hSa hSb hB
      by_cases hlt : k < l.length
      · obtain ⟨ad, rfl, hcells⟩ := act_at HC.out hlt
        have hx := hwf (rd_T30 l k) (rd_mem hlt)
        have hcs := hcells wr HB.out
        have HCells := Lib.hid hcells
        clear hcells
        generalize rd_T30 l k = x at *
        obtain ⟨z0, z1, z2, z3, z4⟩ := hcs
        have hx0 : 0 ≤ x.f0 := hx.1
        rcases (by omega : x.f0 % 4 = 0 ∨ x.f0 % 4 = 1 ∨ x.f0 % 4 = 2 ∨ x.f0 % 4 = 3) with h4 | h4 | h4 | h4 <;> rcases way_mod x.f1 with hway | hway
        · have HS1 := Lib.hid (x_send wr.drew W.heap.size W.heap.size a Fa HT.out.l (8 * k) HSa.out (by omega) HB.out.size 0 (by omega) x.f2 x.f3.f0 x.f3.f1 hx.2.2.1 hx.2.2.2.1 hx.2.2.2.2.1 hx.2.2.2.2.2)
          go_wp2
          go_region_held (fun w' => w'.cell? ⟨(ad.add (k * 5)).block, (ad.add (k * 5)).off + 2, none⟩ = some (.string x.f2) ∧ w'.cell? ⟨(ad.add (k * 5)).block, (ad.add (k * 5)).off + 3, none⟩ = some (.int .u8 x.f3.f0) ∧ w'.cell? ⟨(ad.add (k * 5)).block, (ad.add (k * 5)).off + 4, none⟩ = some (.int .u8 x.f3.f1)) (go_keep)
            (first | (go_at_call 10; refine (HS1.out).mono ?_; rintro e w5 ⟨rfl, hD5⟩; have h5 := two_left (two_drew HT.out) hD5; have hB5 := (HB.out.drew).trans h5.2; have HT5 := Lib.hid h5.1; have HB5 := Lib.hid hB5; have y := HCells.out w5 hB5; have y2 := y.2.2.1; have y3 := y.2.2.2.1; have y4 := y.2.2.2.2; clear hD5 h5 hB5 y))
          obtain ⟨Fa5, hT5⟩ := HT5.out
          have HT6 := Lib.hid hT5
          clear hT5
          have HS2 := Lib.hid (x_send w5.drew W.heap.size w1.heap.size b Fb HT6.out.r (8 * k) HSb.out (by omega) HB5.out.size 0 (by omega) x.f2 x.f3.f0 x.f3.f1 hx.2.2.1 hx.2.2.2.1 hx.2.2.2.2.1 hx.2.2.2.2.2)
          have hke := (alike_send HAl.out x.f2 x.f3.f0 x.f3.f1).2
          go_wp2
          go_region_held (fun w' => w'.cell? ⟨(ad.add (k * 5)).block, (ad.add (k * 5)).off + 2, none⟩ = some (.string x.f2) ∧ w'.cell? ⟨(ad.add (k * 5)).block, (ad.add (k * 5)).off + 3, none⟩ = some (.int .u8 x.f3.f0) ∧ w'.cell? ⟨(ad.add (k * 5)).block, (ad.add (k * 5)).off + 4, none⟩ = some (.int .u8 x.f3.f1)) (go_keep)
            (first | (go_at_call 10; refine (HS2.out).mono ?_; rintro e w6 ⟨rfl, hD6⟩; have h6 := two_right (two_drew HT6.out) hD6; have hB6 := (HB5.out.drew).trans h6.2; have HT7 := Lib.hid h6.1; have HB6 := Lib.hid hB6; have u := HCells.out w6 hB6; have u2 := u.2.2.1; have u3 := u.2.2.2.1; have u4 := u.2.2.2.2; clear hD6 h6 hB6 u))
          go_wp2
          obtain ⟨Fb6, hT6⟩ := HT7.out
          refine ⟨⟨k + 1, aSend a 0 x.f2 x.f3.f0 x.f3.f1, aSend b 0 x.f2 x.f3.f0 x.f3.f1, _, _, by go_num, by omega, hT6, (alike_send HAl.out x.f2 x.f3.f0 x.f3.f1).1, asmall_mono (aSend_small HSa.out _ _ _ _) (by omega), asmall_mono (aSend_small HSb.out _ _ _ _) (by omega), HB6.out⟩, by simp [intOf]; omega⟩
        · have HS1 := Lib.hid (x_send wr.drew W.heap.size W.heap.size a Fa HT.out.l (8 * k) HSa.out (by omega) HB.out.size 1 (by omega) x.f2 x.f3.f0 x.f3.f1 hx.2.2.1 hx.2.2.2.1 hx.2.2.2.2.1 hx.2.2.2.2.2)
          go_wp2
          go_region_held (fun w' => w'.cell? ⟨(ad.add (k * 5)).block, (ad.add (k * 5)).off + 2, none⟩ = some (.string x.f2) ∧ w'.cell? ⟨(ad.add (k * 5)).block, (ad.add (k * 5)).off + 3, none⟩ = some (.int .u8 x.f3.f0) ∧ w'.cell? ⟨(ad.add (k * 5)).block, (ad.add (k * 5)).off + 4, none⟩ = some (.int .u8 x.f3.f1)) (go_keep)
            (first | (go_at_call 10; refine (HS1.out).mono ?_; rintro e w5 ⟨rfl, hD5⟩; have h5 := two_left (two_drew HT.out) hD5; have hB5 := (HB.out.drew).trans h5.2; have HT5 := Lib.hid h5.1; have HB5 := Lib.hid hB5; have y := HCells.out w5 hB5; have y2 := y.2.2.1; have y3 := y.2.2.2.1; have y4 := y.2.2.2.2; clear hD5 h5 hB5 y))
          obtain ⟨Fa5, hT5⟩ := HT5.out
          have HT6 := Lib.hid hT5
          clear hT5
          go_wp2
          refine ⟨⟨k + 1, aSend a 1 x.f2 x.f3.f0 x.f3.f1, b, _, _, by go_num, by omega, HT6.out, alike_send1 HAl.out x.f2 x.f3.f0 x.f3.f1, asmall_mono (aSend_small HSa.out _ _ _ _) (by omega), asmall_mono HSb.out (by omega), HB5.out⟩, by simp [intOf]; omega⟩
        · have HS1 := Lib.hid (x_send wr.drew W.heap.size W.heap.size a Fa HT.out.l (8 * k) HSa.out (by omega) HB.out.size 0 (by omega) x.f2 x.f3.f0 x.f3.f1 hx.2.2.1 hx.2.2.2.1 hx.2.2.2.2.1 hx.2.2.2.2.2)
          go_wp2
          go_region_held (fun w' => w'.cell? ⟨(ad.add (k * 5)).block, (ad.add (k * 5)).off + 2, none⟩ = some (.string x.f2) ∧ w'.cell? ⟨(ad.add (k * 5)).block, (ad.add (k * 5)).off + 3, none⟩ = some (.int .u8 x.f3.f0) ∧ w'.cell? ⟨(ad.add (k * 5)).block, (ad.add (k * 5)).off + 4, none⟩ = some (.int .u8 x.f3.f1)) (go_keep)
            (first | (go_at_call 10; refine (HS1.out).mono ?_; rintro e w5 ⟨rfl, hD5⟩; have h5 := two_left (two_drew HT.out) hD5; have hB5 := (HB.out.drew).trans h5.2; have HT5 := Lib.hid h5.1; have HB5 := Lib.hid hB5; have y := HCells.out w5 hB5; have y2 := y.2.2.1; have y3 := y.2.2.2.1; have y4 := y.2.2.2.2; clear hD5 h5 hB5 y))
          obtain ⟨Fa5, hT5⟩ := HT5.out
          have HT6 := Lib.hid hT5
          clear hT5
          have HS2 := Lib.hid (x_send w5.drew W.heap.size w1.heap.size b Fb HT6.out.r (8 * k) HSb.out (by omega) HB5.out.size 0 (by omega) x.f2 x.f3.f0 x.f3.f1 hx.2.2.1 hx.2.2.2.1 hx.2.2.2.2.1 hx.2.2.2.2.2)
          have hke := (alike_send HAl.out x.f2 x.f3.f0 x.f3.f1).2
          go_wp2
          go_region_held (fun w' => w'.cell? ⟨(ad.add (k * 5)).block, (ad.add (k * 5)).off + 2, none⟩ = some (.string x.f2) ∧ w'.cell? ⟨(ad.add (k * 5)).block, (ad.add (k * 5)).off + 3, none⟩ = some (.int .u8 x.f3.f0) ∧ w'.cell? ⟨(ad.add (k * 5)).block, (ad.add (k * 5)).off + 4, none⟩ = some (.int .u8 x.f3.f1)) (go_keep)
            (first | (go_at_call 10; refine (HS2.out).mono ?_; rintro e w6 ⟨rfl, hD6⟩; have h6 := two_right (two_drew HT6.out) hD6; have hB6 := (HB5.out.drew).trans h6.2; have HT7 := Lib.hid h6.1; have HB6 := Lib.hid hB6; have u := HCells.out w6 hB6; have u2 := u.2.2.1; have u3 := u.2.2.2.1; have u4 := u.2.2.2.2; clear hD6 h6 hB6 u))
          go_wp2
          obtain ⟨Fb6, hT6⟩ := HT7.out
          refine ⟨⟨k + 1, aSend a 0 x.f2 x.f3.f0 x.f3.f1, aSend b 0 x.f2 x.f3.f0 x.f3.f1, _, _, by go_num, by omega, hT6, (alike_send HAl.out x.f2 x.f3.f0 x.f3.f1).1, asmall_mono (aSend_small HSa.out _ _ _ _) (by omega), asmall_mono (aSend_small HSb.out _ _ _ _) (by omega), HB6.out⟩, by simp [intOf]; omega⟩
        · have HS1 := Lib.hid (x_send wr.drew W.heap.size W.heap.size a Fa HT.out.l (8 * k) HSa.out (by omega) HB.out.size 1 (by omega) x.f2 x.f3.f0 x.f3.f1 hx.2.2.1 hx.2.2.2.1 hx.2.2.2.2.1 hx.2.2.2.2.2)
          go_wp2
          go_region_held (fun w' => w'.cell? ⟨(ad.add (k * 5)).block, (ad.add (k * 5)).off + 2, none⟩ = some (.string x.f2) ∧ w'.cell? ⟨(ad.add (k * 5)).block, (ad.add (k * 5)).off + 3, none⟩ = some (.int .u8 x.f3.f0) ∧ w'.cell? ⟨(ad.add (k * 5)).block, (ad.add (k * 5)).off + 4, none⟩ = some (.int .u8 x.f3.f1)) (go_keep)
            (first | (go_at_call 10; refine (HS1.out).mono ?_; rintro e w5 ⟨rfl, hD5⟩; have h5 := two_left (two_drew HT.out) hD5; have hB5 := (HB.out.drew).trans h5.2; have HT5 := Lib.hid h5.1; have HB5 := Lib.hid hB5; have y := HCells.out w5 hB5; have y2 := y.2.2.1; have y3 := y.2.2.2.1; have y4 := y.2.2.2.2; clear hD5 h5 hB5 y))
          obtain ⟨Fa5, hT5⟩ := HT5.out
          have HT6 := Lib.hid hT5
          clear hT5
          go_wp2
          refine ⟨⟨k + 1, aSend a 1 x.f2 x.f3.f0 x.f3.f1, b, _, _, by go_num, by omega, HT6.out, alike_send1 HAl.out x.f2 x.f3.f0 x.f3.f1, asmall_mono (aSend_small HSa.out _ _ _ _) (by omega), asmall_mono HSb.out (by omega), HB5.out⟩, by simp [intOf]; omega⟩
        · have HG1 := Lib.hid (x_got wr W.heap.size W.heap.size a Fa HT.out.l (8 * k) HSa.out (by omega) 0 (by omega))
          have hge := (alike_got HAl.out).1
          go_wp2_with fail
          refine (HG1.out).mono ?_
          rintro e w5 ⟨rfl, hD5⟩
          have h5 := two_left HT.out hD5
          obtain ⟨⟨Fa5, hT5⟩, hB5⟩ := h5
          have HT5 := Lib.hid hT5
          have HB5 := Lib.hid (HB.out.trans hB5)
          clear hD5 hT5 hB5
          have HG2 := Lib.hid (x_got w5 W.heap.size w1.heap.size b Fb HT5.out.r (8 * k) HSb.out (by omega) 0 (by omega))
          go_wp2_with fail
          refine (HG2.out).mono ?_
          rintro e w6 ⟨rfl, hD6⟩
          have h6 := two_right HT5.out hD6
          obtain ⟨⟨Fb6, hT6⟩, hB6⟩ := h6
          have HT6 := Lib.hid hT6
          have HB6 := Lib.hid (HB5.out.trans hB6)
          clear hD6 hT6 hB6
          go_wp2
          refine ⟨⟨k + 1, agotS a 0, agotS b 0, _, _, by go_num, by omega, HT6.out, (alike_got HAl.out).2, asmall_mono (agotS_small HSa.out _) (by omega), asmall_mono (agotS_small HSb.out _) (by omega), HB6.out⟩, by simp [intOf]; omega⟩
        · have HG1 := Lib.hid (x_got wr W.heap.size W.heap.size a Fa HT.out.l (8 * k) HSa.out (by omega) 0 (by omega))
          have hge := (alike_got HAl.out).1
          go_wp2_with fail
          refine (HG1.out).mono ?_
          rintro e w5 ⟨rfl, hD5⟩
          have h5 := two_left HT.out hD5
          obtain ⟨⟨Fa5, hT5⟩, hB5⟩ := h5
          have HT5 := Lib.hid hT5
          have HB5 := Lib.hid (HB.out.trans hB5)
          clear hD5 hT5 hB5
          have HG2 := Lib.hid (x_got w5 W.heap.size w1.heap.size b Fb HT5.out.r (8 * k) HSb.out (by omega) 0 (by omega))
          go_wp2_with fail
          refine (HG2.out).mono ?_
          rintro e w6 ⟨rfl, hD6⟩
          have h6 := two_right HT5.out hD6
          obtain ⟨⟨Fb6, hT6⟩, hB6⟩ := h6
          have HT6 := Lib.hid hT6
          have HB6 := Lib.hid (HB5.out.trans hB6)
          clear hD6 hT6 hB6
          have HG3 := Lib.hid (x_got w6 W.heap.size W.heap.size (agotS a 0) Fa5 HT6.out.l (8 * k + 4) (agotS_small HSa.out _) (by omega) 1 (by omega))
          go_wp2_with fail
          refine (HG3.out).mono ?_
          rintro e w7 ⟨rfl, hD7⟩
          have h7 := two_left HT6.out hD7
          obtain ⟨⟨Fa7, hT7⟩, hB7⟩ := h7
          have HT7 := Lib.hid hT7
          have HB7 := Lib.hid (HB6.out.trans hB7)
          clear hD7 hT7 hB7
          go_wp2
          refine ⟨⟨k + 1, agotS (agotS a 0) 1, agotS b 0, _, _, by go_num, by omega, HT7.out, alike_got1 (alike_got HAl.out).2, asmall_mono (agotS_small (agotS_small HSa.out _) _) (by omega), asmall_mono (agotS_small HSb.out _) (by omega), HB7.out⟩, by simp [intOf]; omega⟩
        · have HK1 := Lib.hid (a_tick wr W.heap.size W.heap.size a Fa HT.out.l (8 * k) HSa.out (by omega))
          go_wp2_with fail
          refine (HK1.out).mono ?_
          rintro e w5 ⟨rfl, hD5⟩
          have h5 := two_left HT.out hD5
          obtain ⟨⟨Fa5, hT5⟩, hB5⟩ := h5
          have HT5 := Lib.hid hT5
          have HB5 := Lib.hid (HB.out.trans hB5)
          clear hD5 hT5 hB5
          have HK2 := Lib.hid (a_tick w5 W.heap.size w1.heap.size b Fb HT5.out.r (8 * k) HSb.out (by omega))
          go_wp2_with fail
          refine (HK2.out).mono ?_
          rintro e w6 ⟨rfl, hD6⟩
          have h6 := two_right HT5.out hD6
          obtain ⟨⟨Fb6, hT6⟩, hB6⟩ := h6
          have HT6 := Lib.hid hT6
          have HB6 := Lib.hid (HB5.out.trans hB6)
          clear hD6 hT6 hB6
          go_wp2
          refine ⟨⟨k + 1, a.tick, b.tick, _, _, by go_num, by omega, HT6.out, alike_tick HAl.out, asmall_mono (atick_small HSa.out) (by omega), asmall_mono (atick_small HSb.out) (by omega), HB6.out⟩, by simp [intOf]; omega⟩
        · have HK1 := Lib.hid (a_tick wr W.heap.size W.heap.size a Fa HT.out.l (8 * k) HSa.out (by omega))
          go_wp2_with fail
          refine (HK1.out).mono ?_
          rintro e w5 ⟨rfl, hD5⟩
          have h5 := two_left HT.out hD5
          obtain ⟨⟨Fa5, hT5⟩, hB5⟩ := h5
          have HT5 := Lib.hid hT5
          have HB5 := Lib.hid (HB.out.trans hB5)
          clear hD5 hT5 hB5
          have HK2 := Lib.hid (a_tick w5 W.heap.size w1.heap.size b Fb HT5.out.r (8 * k) HSb.out (by omega))
          go_wp2_with fail
          refine (HK2.out).mono ?_
          rintro e w6 ⟨rfl, hD6⟩
          have h6 := two_right HT5.out hD6
          obtain ⟨⟨Fb6, hT6⟩, hB6⟩ := h6
          have HT6 := Lib.hid hT6
          have HB6 := Lib.hid (HB5.out.trans hB6)
          clear hD6 hT6 hB6
          go_wp2
          refine ⟨⟨k + 1, a.tick, b.tick, _, _, by go_num, by omega, HT6.out, alike_tick HAl.out, asmall_mono (atick_small HSa.out) (by omega), asmall_mono (atick_small HSb.out) (by omega), HB6.out⟩, by simp [intOf]; omega⟩
      · have e1 : awaits a 0 = awaits b 0 := by unfold awaits; rw [if_pos (by omega), if_pos (by omega)]; show ((a.L 0).length : Int) = ((b.L 0).length : Int); rw [HAl.out.q0]
        have e2 : awaits b 1 = 0 := by unfold awaits; rw [if_pos (by omega)]; show ((b.L 1).length : Int) = 0; rw [HAl.out.q1]; rfl
        have q1 := a_waiting wr W.heap.size W.heap.size a Fa HT.out.l HSa.out.most0 0
        have q2 := a_waiting wr W.heap.size w1.heap.size b Fb HT.out.r HSb.out.most0 0
        have q3 := a_waiting wr W.heap.size w1.heap.size b Fb HT.out.r HSb.out.most0 1
        rw [e1] at q1
        rw [e2] at q3
        have Q1 := Lib.hid q1
        have Q2 := Lib.hid q2
        have Q3 := Lib.hid q3
        clear q1 q2 q3 e1 e2
        generalize awaits b 0 = n0 at *
        go_wp2_with fail
        refine (Q1.out).mono ?_
        rintro e w5 ⟨rfl, hw⟩
        obtain rfl := hw.symm
        clear hw
        go_wp2_with fail
        refine (Q2.out).mono ?_
        rintro e w5 ⟨rfl, hw⟩
        obtain rfl := hw.symm
        clear hw
        go_wp2_with fail
        refine (Q3.out).mono ?_
        rintro e w5 ⟨rfl, hw⟩
        obtain rfl := hw.symm
        clear hw
        go_wp2_with fail
        refine (works_calls _).mono ?_
        rintro e w6 ⟨rfl, hB6⟩
        go_wp2
        go_ret
        exact ⟨rfl, HB.out.trans (hB6.mono HB.out.size)⟩
end Go.Proofs.Ytjdehmclcdiijaa.Hp
