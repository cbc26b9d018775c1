/- ManifestWhole walked (functions 4, 17, 18). Printed by whgen.py. -/
import Derived.Test.YtbffgpfkgmhmhaaGreatDoorVMf
set_option linter.unusedVariables false
set_option linter.unusedSimpArgs false
namespace Go.Proofs.YtbffgpfkgmhmhaaGreatDoor.Dw
open Go.RowKit Go.Maps Go.Proofs.YtbffgpfkgmhmhaaGreatDoor.HM Go.Proofs.YtbffgpfkgmhmhaaGreatDoorW.PrintWords Go.Proofs.YtbffgpfkgmhmhaaGreatDoorW.PrintLast Go.Proofs.YtbffgpfkgmhmhaaGreatDoorW.PrintMore Go.Proofs.Dk
set_option maxRecDepth 100000
theorem awake_is : hindcastlaw17_awake.f 101002 = some true := by decide +kernel
theorem mawake_calls (w : World) (hL : Crc.Laid w) : Calls Tryz.prog 17 #[] w fun e w' => e = .returned (.bool true) ∧ Below w.heap.size w w' :=
  HM.hindcastlaw17_awake.calls 101002 true w awake_is ⟨hL⟩
/-- A swap, over a power of this fuse. -/
structure SV where
  e : Int
  p : Int
  A2 : Option Addr
  c2 : Nat
  l2 : List S29
  A3 : Option Addr
  c3 : Nat
  l3 : List Int
  fuse : Int
  Ak : Option Addr
  ck : Nat
  keep : List Int
structure okSV (w : World) (x : SV) : Prop where
  e : 0 ≤ x.e ∧ x.e < 18446744073709551616
  p : 0 ≤ x.p ∧ x.p < 256
  nums : PM.okNums x.l2 x.l3
  r2 : Kd.C k29 w x.A2 x.l2.length x.l2
  h2 : x.l2.length ≤ x.c2
  r3 : Kd.C (Kd.int .u64) w x.A3 x.l3.length x.l3
  h3 : x.l3.length ≤ x.c3
  fuse : -9223372036854775808 ≤ x.fuse ∧ x.fuse ≤ 9223372036854775807
  nil : x.Ak = none → x.keep = []
  kept : Nums w x.Ak x.keep
def StepsAt (w : World) (A : Option Addr) (l : List SV) : Prop := ∀ (j : Nat) (h : j < l.length), ∃ ad, A = some ad ∧ w.cell? (ad.add (j * 6)) = some (.int .u64 l[j].e) ∧
  w.cell? ⟨(ad.add (j * 6)).block, (ad.add (j * 6)).off + 1, none⟩ = some (.int .u8 l[j].p) ∧ w.cell? ⟨(ad.add (j * 6)).block, (ad.add (j * 6)).off + 2, none⟩ = some (.slice l[j].A2 l[j].l2.length l[j].c2) ∧
  w.cell? ⟨(ad.add (j * 6)).block, (ad.add (j * 6)).off + 3, none⟩ = some (.slice l[j].A3 l[j].l3.length l[j].c3) ∧ w.cell? ⟨(ad.add (j * 6)).block, (ad.add (j * 6)).off + 4, none⟩ = some (.int .i64 l[j].fuse) ∧
  w.cell? ⟨(ad.add (j * 6)).block, (ad.add (j * 6)).off + 5, none⟩ = some (.slice l[j].Ak l[j].keep.length l[j].ck)
def few (x : SV) : Bool := decide (x.l2.length ≤ 50) && decide (x.l3.length ≤ 50)
theorem few_is (x : SV) : hindcastlaw17_few.f x.e x.p x.l2 x.l3 = some (few x) := by
  unfold hindcastlaw17_few.f few
  by_cases h : (x.l2.length : Int) ≤ 50
  · rw [if_pos h, decide_eq_true (show x.l2.length ≤ 50 by omega), Bool.true_and]
    congr 1
    exact decide_eq_decide.2 (by omega)
  · rw [if_neg h, decide_eq_false (show ¬ x.l2.length ≤ 50 by omega), Bool.false_and]
theorem nums_below {w w' : World} {A : Option Addr} {l : List Int} (h : Nums w A l) (hB : Below w.heap.size w w') : Nums w' A l := fun j hj => by
  obtain ⟨ad, hA, hc⟩ := h j hj
  exact ⟨ad, hA, cell_below hc hB⟩
theorem take_mtext {e p : Int} {l2 : List S29} {l3 : List Int} (he : 0 ≤ e ∧ e < 18446744073709551616) (hp : 0 ≤ p ∧ p < 256) (ho : PM.okNums l2 l3) (ok : PM.okB e p l2 l3 = true) : PT.takeN (mtext e p l2 l3) = (e, p, l2, l3, 0) := by
  rw [← PT.take_put e p l2 l3 he hp ho ok]
  congr 1
theorem okB_len {e p : Int} {l2 : List S29} {l3 : List Int} (h : PM.okB e p l2 l3 = true) : l2.length ≤ 12 ∧ l3.length ≤ 2 := by
  unfold PM.okB at h
  simp only [Bool.and_eq_true, decide_eq_true_eq] at h
  obtain ⟨_, _, _, q2, q3, _⟩ := h
  exact ⟨q2, q3⟩
theorem take_len (l : Tx) : (PT.takeN l).2.2.1.length ≤ 12 ∧ (PT.takeN l).2.2.2.1.length ≤ 2 := by
  unfold PT.takeN
  split
  · split
    · rename_i h
      exact okB_len h.2.2
    · exact ⟨Nat.zero_le _, Nat.zero_le _⟩
  · exact ⟨Nat.zero_le _, Nat.zero_le _⟩
theorem loadN_len (r : Tx × Nat) : (loadN r).2.2.1.length ≤ 12 ∧ (loadN r).2.2.2.1.length ≤ 2 := by
  unfold loadN
  split
  · exact take_len _
  · exact ⟨Nat.zero_le _, Nat.zero_le _⟩
theorem read_mn (l : FS) : Dk.read l Dk.mn = match get l Dk.mn with | none => ([], 5) | some f => (f.b, 0) := by
  rw [Go.Proofs.Dk.read, if_pos mn_ok]
  cases get l Dk.mn <;> rfl
theorem read_same {l l2 : FS} (h : get l2 Dk.mn = get l Dk.mn) : Dk.read l2 Dk.mn = Dk.read l Dk.mn := by rw [read_mn, read_mn, h]
theorem read_new {l : FS} {t : Tx} (h : get l Dk.mn = some ⟨t, t.length⟩) : Dk.read l Dk.mn = (t, 0) := by rw [read_mn, h]
abbrev M5 := Int × Int × List S29 × List Int × Int
/-- A box that holds a manifest. -/
def Box26 (w : World) (g : Nat) (m : M5) (A2 : Option Addr) (c2 : Nat) (A3 : Option Addr) (c3 : Nat) : Prop := w.heap[g]? = some (.cells #[.int .u64 m.1, .int .u8 m.2.1, .slice A2 m.2.2.1.length c2, .slice A3 m.2.2.2.1.length c3] 26)
theorem msame_calls (w : World) (m n : M5) (A2 : Option Addr) (c2 : Nat) (A3 : Option Addr) (c3 : Nat) (A2' : Option Addr) (c2' : Nat) (A3' : Option Addr) (c3' : Nat)
    (h : Kd.C k29 w A2 m.2.2.1.length m.2.2.1 ∧ m.2.2.1.length ≤ c2 ∧ Kd.C (Kd.int .u64) w A3 m.2.2.2.1.length m.2.2.2.1 ∧ m.2.2.2.1.length ≤ c3)
    (h' : Kd.C k29 w A2' n.2.2.1.length n.2.2.1 ∧ n.2.2.1.length ≤ c2' ∧ Kd.C (Kd.int .u64) w A3' n.2.2.2.1.length n.2.2.2.1 ∧ n.2.2.2.1.length ≤ c3') (hl : m.2.2.1.length ≤ 12 ∧ m.2.2.2.1.length ≤ 2) :
    Calls Tryz.prog 15 #[.agg #[.int .u64 m.1, .int .u8 m.2.1, .slice A2 m.2.2.1.length c2, .slice A3 m.2.2.2.1.length c3], .agg #[.int .u64 n.1, .int .u8 n.2.1, .slice A2' n.2.2.1.length c2', .slice A3' n.2.2.2.1.length c3']] w fun e w' => ∃ b, e = .returned (.bool b) ∧ ((m.1, m.2.1, m.2.2.1, m.2.2.2.1) = (n.1, n.2.1, n.2.2.1, n.2.2.2.1) → b = true) ∧ Below w.heap.size w w' := by
  obtain ⟨b, hb⟩ := same_some m.1 m.2.1 n.1 n.2.1 m.2.2.1 n.2.2.1 m.2.2.2.1 n.2.2.2.1 (by omega) (by omega)
  refine (HM.hindcastlaw17_same.calls 1001 m.1 m.2.1 A2 c2 m.2.2.1 A3 c3 m.2.2.2.1 n.1 n.2.1 A2' c2' n.2.2.1 A3' c3' n.2.2.2.1 b w h.1 h.2.1 h.2.2.1 h.2.2.2 h'.1 h'.2.1 h'.2.2.1 h'.2.2.2 hb).mono ?_
  rintro e w' ⟨rfl, hB⟩
  refine ⟨b, rfl, fun he => ?_, hB⟩
  simp only [Prod.mk.injEq] at he
  obtain ⟨e1, e2, e3, e4⟩ := he
  rw [← e1, ← e2, ← e3, ← e4, PT.same_f _ _ _ _ (by omega) (by omega) 1001 (by decide)] at hb
  exact (Option.some.inj hb).symm
/-- Cells of a step, where it lies. -/
def SC (w : World) (a : Addr) (x : SV) : Prop := w.cell? a = some (.int .u64 x.e) ∧ w.cell? ⟨a.block, a.off + 1, none⟩ = some (.int .u8 x.p) ∧ w.cell? ⟨a.block, a.off + 2, none⟩ = some (.slice x.A2 x.l2.length x.c2) ∧
  w.cell? ⟨a.block, a.off + 3, none⟩ = some (.slice x.A3 x.l3.length x.c3) ∧ w.cell? ⟨a.block, a.off + 4, none⟩ = some (.int .i64 x.fuse) ∧ w.cell? ⟨a.block, a.off + 5, none⟩ = some (.slice x.Ak x.keep.length x.ck)
theorem SC.below {w w' : World} {a : Addr} {x : SV} (h : SC w a x) (hB : Below w.heap.size w w') : SC w' a x :=
  ⟨cell_below h.1 hB, cell_below h.2.1 hB, cell_below h.2.2.1 hB, cell_below h.2.2.2.1 hB, cell_below h.2.2.2.2.1 hB, cell_below h.2.2.2.2.2 hB⟩
def B4 (w : World) (g : Nat) (m : M5) (A2 : Option Addr) (c2 : Nat) (A3 : Option Addr) (c3 : Nat) : Prop := w.cell? ⟨g, 0, none⟩ = some (.int .u64 m.1) ∧ w.cell? ⟨g, 1, none⟩ = some (.int .u8 m.2.1) ∧ w.cell? ⟨g, 2, none⟩ = some (.slice A2 m.2.2.1.length c2) ∧ w.cell? ⟨g, 3, none⟩ = some (.slice A3 m.2.2.2.1.length c3)
theorem Box26.b4 {w : World} {g : Nat} {m : M5} {A2 : Option Addr} {c2 : Nat} {A3 : Option Addr} {c3 : Nat} (h : Box26 w g m A2 c2 A3 c3) : B4 w g m A2 c2 A3 c3 := Go.Proofs.YtbffgpfkgmhmhaaGreatDoor.HM.cells4 h
theorem Box26.below {w w' : World} {g : Nat} {m : M5} {A2 : Option Addr} {c2 : Nat} {A3 : Option Addr} {c3 : Nat} (h : Box26 w g m A2 c2 A3 c3) (hB : Below w.heap.size w w') : Box26 w' g m A2 c2 A3 c3 := (hB.block g (heap_lt h)).trans h
theorem xreads {w w' : World} {x : SV} (h : okSV w x) (hB : Below w.heap.size w w') : Kd.C k29 w' x.A2 x.l2.length x.l2 ∧ x.l2.length ≤ x.c2 ∧ Kd.C (Kd.int .u64) w' x.A3 x.l3.length x.l3 ∧ x.l3.length ≤ x.c3 :=
  ⟨Kd.C_below h.r2 hB, h.h2, Kd.C_below h.r3 hB, h.h3⟩
/-- What a round knows behind the second look: what it told, the swap's answer. -/
structure Told2 (z : Nat) (m n : M5) (x : SV) : Prop where
  how : (m = n ∧ (z = 4 ∨ z = 8)) ∨ (m = (x.e, x.p, x.l2, x.l3, 0) ∧ (z = 0 ∨ z = 8))
set_option maxHeartbeats 40000000 in
theorem whole_calls (w : World) (hL : Crc.Laid w) (A : Option Addr) (cap : Nat) (l : List SV) (hll : l.length ≤ 9223372036854775807) (hA : StepsAt w A l) (hok : ∀ x ∈ l, okSV w x) :
    Calls Tryz.prog 4 #[.slice A l.length cap] w fun e w' => e = .returned (.bool true) ∧ Below w.heap.size w w' := by
  have HLd := Lib.hid hL
  have HA := Lib.hid hA
  have HOk := Lib.hid hok
  have hu26 := Tryz.underlying26
  have hu50 := Tryz.underlying50
  clear hL hA hok
  go_enter Tryz.func4, Tryz.ntmps4
  go_wp2_with fail
  refine (new_ok w 100000 (by decide)).mono ?_
  rintro e w1 ⟨d, mb, rfl, hD, hB⟩
  have HD := Lib.hid hD
  have HB := Lib.hid hB
  clear hD hB
  by_cases h12 : 12 < l.length
  · have d1 : decide ((12 : Int) < (l.length : Int)) = true := decide_eq_true (by omega)
    go_wp2_with fail
    refine (mawake_calls w1 (Crc.laid_below HLd.out HB.out)).mono ?_
    rintro e w2 ⟨rfl, hB2⟩
    have HB2 := Lib.hid (HB.out.trans (hB2.mono HB.out.size))
    clear hB2
    go_wp2_with fail
    go_ret
    exact ⟨rfl, HB2.out⟩
  · have d1 : decide ((12 : Int) < (l.length : Int)) = false := decide_eq_false (by omega)
    go_wp2_with fail
    go_loopw [4] (fun t4 wr => ∃ (i : Nat) (L1 : Lf), i ≤ l.length ∧ t4 = .int .i64 i ∧ IsD wr w.heap.size d mb 100000 L1 ∧ Inv (fs L1) ∧ Below w.heap.size w wr) (fun t4 _ => l.length - (intOf t4).toNat)
    case atStart => exact ⟨0, [], Nat.zero_le _, rfl, HD.out, Inv.nil, HB.out⟩
    case round =>
      obtain ⟨i, L1, hi, rfl, hD1, hI1, hB1⟩ := hrel
      clear HD HB d1
      have HD := Lib.hid hD1
      have HI := Lib.hid hI1
      have HB := Lib.hid hB1
      have HLr := Lib.hid (Crc.laid_below HLd.out HB.out)
      clear hD1 hI1 hB1
      by_cases hlt : i < l.length
      · have hltb : decide ((i : Int) < (l.length : Int)) = true := decide_eq_true (by omega)
        have hk0 : 0 ≤ (i : Int) := by omega
        obtain ⟨ad, rfl, hsc⟩ := HA.out i hlt
        have HC0 := Lib.hid (show SC w (ad.add (i * 6)) l[i] from hsc)
        have hx := HOk.out _ (List.getElem_mem hlt)
        clear hsc
        generalize l[i] = x at *
        have HX := Lib.hid hx
        have HC := Lib.hid (HC0.out.below HB.out)
        obtain ⟨c0, c1, c2, c3, c4, c5⟩ := HC.out
        clear hx
        go_wp2_with fail
        refine (HM.hindcastlaw17_few.calls x.e x.p x.A2 x.c2 x.l2 x.A3 x.c3 x.l3 _ wr (Kd.C_below HX.out.r2 HB.out) HX.out.h2 (Kd.C_below HX.out.r3 HB.out) HX.out.h3 (few_is x)).mono ?_
        rintro e w2 ⟨rfl, hB2⟩
        have HB2 := Lib.hid (HB.out.trans (hB2.mono HB.out.size))
        have HD2 := Lib.hid (HD.out.below hB2)
        have HC2 := Lib.hid (HC0.out.below HB2.out)
        clear hB2 c0 c1 c2 c3 c4 c5
        obtain ⟨c0, c1, c2, c3, c4, c5⟩ := HC2.out
        cases hfew : few x with
        | false =>
          go_wp2_with fail
          refine (mawake_calls w2 (Crc.laid_below HLd.out HB2.out)).mono ?_
          rintro e w99 ⟨rfl, hB99⟩
          have HB99 := Lib.hid (HB2.out.trans (hB99.mono HB2.out.size))
          clear hB99
          go_wp2_with fail
          go_ret
          exact ⟨rfl, HB99.out⟩
        | true =>
          have HF := Lib.hid hfew
          clear hfew
          by_cases hk10 : 10 < x.keep.length
          · have dk : decide ((10 : Int) < (x.keep.length : Int)) = true := decide_eq_true (by omega)
            go_wp2_with fail
            refine (mawake_calls w2 (Crc.laid_below HLd.out HB2.out)).mono ?_
            rintro e w99 ⟨rfl, hB99⟩
            have HB99 := Lib.hid (HB2.out.trans (hB99.mono HB2.out.size))
            clear hB99
            go_wp2_with fail
            go_ret
            exact ⟨rfl, HB99.out⟩
          · have dk : decide ((10 : Int) < (x.keep.length : Int)) = false := decide_eq_false (by omega)
            go_wp2_with fail
            refine (loads_calls w2 HD2.out (Crc.laid_below HLd.out HB2.out)).mono ?_
            have HR0 := Lib.hid (loadN_len (Dk.read (fs L1) Dk.mn))
            generalize hm0 : loadN (Dk.read (fs L1) Dk.mn) = m0 at *
            have HM0 := Lib.hid hm0
            clear hm0
            rintro e w3 ⟨A2, c2', A3, c3', rfl, hM3, hB3⟩
            have HM3 := Lib.hid hM3
            have HB3 := Lib.hid (HB2.out.trans (hB3.mono HB2.out.size))
            have HD3 := Lib.hid (HD2.out.below hB3)
            have hs23 : w2.heap.size ≤ w3.heap.size := hB3.size
            have HL2 := Lib.hid (show mb < w2.heap.size ∧ ∀ r ∈ L1, r.2.1 < w2.heap.size from ⟨by obtain ⟨es, clock, hb, _⟩ := HD2.out.map; exact heap_lt hb, fun r hr => heap_lt (HD2.out.file r hr)⟩)
            clear hM3 hB3 c0 c1 c2 c3 c4 c5
            go_wp2_with fail
            have HBk4 := Lib.hid (show Box26 (w3.alloc (.cells #[.int .u64 m0.1, .int .u8 m0.2.1, .slice A2 m0.2.2.1.length c2', .slice A3 m0.2.2.2.1.length c3'] 26)) w3.heap.size m0 A2 c2' A3 c3' from heap_alloc_new w3 _)
            have hBa := (Below.refl w3.heap.size w3).alloc (Nat.le_refl _) (.cells #[.int .u64 m0.1, .int .u8 m0.2.1, .slice A2 m0.2.2.1.length c2', .slice A3 m0.2.2.2.1.length c3'] 26)
            have HB4 := Lib.hid (HB3.out.trans (hBa.mono HB3.out.size))
            have HD4 := Lib.hid (HD3.out.below hBa)
            have HM4 := Lib.hid (HM3.out.below hBa)
            clear hBa
            have hs4 : (w3.alloc (.cells #[.int .u64 m0.1, .int .u8 m0.2.1, .slice A2 m0.2.2.1.length c2', .slice A3 m0.2.2.2.1.length c3'] 26)).heap.size = w3.heap.size + 1 := World.size_alloc ..
            generalize w3.alloc (.cells #[.int .u64 m0.1, .int .u8 m0.2.1, .slice A2 m0.2.2.1.length c2', .slice A3 m0.2.2.2.1.length c3'] 26) = w4 at *
            generalize hg5 : w3.heap.size = g5 at *
            clear hg5 HM3 HB3 HD3 HB2 HD2
            have HSp := Lib.hid (HB4.out.size)
            have HK := Lib.hid (nums_below HX.out.kept HB4.out)
            have HNw := Lib.hid (pnew_calls w4.drew (HD4.out.below (Below.refl _ w4).drew) x.fuse x.Ak x.ck x.keep (by omega) HX.out.nil HK.out)
            have HS4 := Lib.hid (HC0.out.below HB4.out)
            cases hok : PM.okB x.e x.p x.l2 x.l3 with
            | false =>
              refine start_ (n := 19) (S := (fun w' => SC w' (ad.add (i * 6)) x)) (ds := []) #[false, false, false, false, false, false, false, false, false, false, false, false, false, false, false, false, false, false, false] (by kernel_rfl) rfl rfl (show SC w4.drew (ad.add (i * 6)) x from HS4.out) (fun hHeld => ?_)
              refine pure_ (i := 0) (N := some 53) (v := ?_) (a' := ?_) #[true, false, false, false, false, false, false, false, false, false, false, false, false, false, false, false, false, false, false] rfl rfl (by kernel_rfl) (fun _ _ _ h => h) (Or.inl ⟨by rfl, ?_⟩) ?_ ?_
              rotate_left
              · intro w'
                go_simp
                with_reducible rfl
              rotate_left
              · simp only [Act.put, List.setIfInBounds_toArray, List.set_cons_zero, List.set_cons_succ, i64_w, i32_w]
                rfl
              refine pure_ (i := 1) (N := some 54) (v := ?_) (a' := ?_) #[true, true, false, false, false, false, false, false, false, false, false, false, false, false, false, false, false, false, false] rfl rfl (by kernel_rfl) (fun _ _ _ h => h) (Or.inl ⟨by rfl, ?_⟩) ?_ ?_
              rotate_left
              · intro w'
                go_simp
                with_reducible rfl
              rotate_left
              · simp only [Act.put, List.setIfInBounds_toArray, List.set_cons_zero, List.set_cons_succ, i64_w, i32_w]
                rfl
              refine pure_ (i := 2) (N := some 55) (v := ?_) (a' := ?_) #[true, true, true, false, false, false, false, false, false, false, false, false, false, false, false, false, false, false, false] rfl rfl (by kernel_rfl) (fun _ _ _ h => h) (Or.inl ⟨by rfl, ?_⟩) ?_ ?_
              rotate_left
              · intro w'
                go_simp
                with_reducible rfl
              rotate_left
              · simp only [Act.put, List.setIfInBounds_toArray, List.set_cons_zero, List.set_cons_succ, i64_w, i32_w]
                rfl
              refine pure_ (i := 3) (N := some 56) (v := ?_) (a' := ?_) #[true, true, true, true, false, false, false, false, false, false, false, false, false, false, false, false, false, false, false] rfl rfl (by kernel_rfl) (fun _ _ _ h => h) (Or.inl ⟨by rfl, ?_⟩) ?_ ?_
              rotate_left
              · intro w'
                go_simp
                with_reducible rfl
              rotate_left
              · simp only [Act.put, List.setIfInBounds_toArray, List.set_cons_zero, List.set_cons_succ, i64_w, i32_w]
                rfl
              refine pure_ (i := 4) (N := some 57) (v := ?_) (a' := ?_) #[true, true, true, true, true, false, false, false, false, false, false, false, false, false, false, false, false, false, false] rfl rfl (by kernel_rfl) (fun _ _ _ h => h) (Or.inl ⟨by rfl, ?_⟩) ?_ ?_
              rotate_left
              · intro w'
                go_simp
                with_reducible rfl
              rotate_left
              · simp only [Act.put, List.setIfInBounds_toArray, List.set_cons_zero, List.set_cons_succ, i64_w, i32_w]
                rfl
              refine take_ (i := 5) (N := some 58) (v := ?_) (a' := ?_) #[true, true, true, true, true, true, false, false, false, false, false, false, false, false, false, false, false, false, false] rfl rfl (by kernel_rfl) (fun _ _ _ h => h) (Or.inl ⟨by rfl, ?_⟩) hHeld ?_ ?_
              rotate_left
              · rintro w' ⟨q0, q1, q2, q3, q4, q5⟩
                go_simp
                with_reducible rfl
              rotate_left
              · simp only [Act.put, List.setIfInBounds_toArray, List.set_cons_zero, List.set_cons_succ, i64_w, i32_w]
                rfl
              refine pure_ (i := 6) (N := some 59) (v := ?_) (a' := ?_) #[true, true, true, true, true, true, true, false, false, false, false, false, false, false, false, false, false, false, false] rfl rfl (by kernel_rfl) (fun _ _ _ h => h) (Or.inl ⟨by rfl, ?_⟩) ?_ ?_
              rotate_left
              · intro w'
                go_simp
                with_reducible rfl
              rotate_left
              · simp only [Act.put, List.setIfInBounds_toArray, List.set_cons_zero, List.set_cons_succ, i64_w, i32_w]
                rfl
              refine pure_ (i := 7) (N := some 60) (v := ?_) (a' := ?_) #[true, true, true, true, true, true, true, true, false, false, false, false, false, false, false, false, false, false, false] rfl rfl (by kernel_rfl) (fun _ _ _ h => h) (Or.inl ⟨by rfl, ?_⟩) ?_ ?_
              rotate_left
              · intro w'
                go_simp
                with_reducible rfl
              rotate_left
              · simp only [Act.put, List.setIfInBounds_toArray, List.set_cons_zero, List.set_cons_succ, i64_w, i32_w]
                rfl
              refine pure_ (i := 8) (N := some 61) (v := ?_) (a' := ?_) #[true, true, true, true, true, true, true, true, true, false, false, false, false, false, false, false, false, false, false] rfl rfl (by kernel_rfl) (fun _ _ _ h => h) (Or.inl ⟨by rfl, ?_⟩) ?_ ?_
              rotate_left
              · intro w'
                go_simp
                with_reducible rfl
              rotate_left
              · simp only [Act.put, List.setIfInBounds_toArray, List.set_cons_zero, List.set_cons_succ, i64_w, i32_w]
                rfl
              refine pure_ (i := 9) (N := some 62) (v := ?_) (a' := ?_) #[true, true, true, true, true, true, true, true, true, true, false, false, false, false, false, false, false, false, false] rfl rfl (by kernel_rfl) (fun _ _ _ h => h) (Or.inl ⟨by rfl, ?_⟩) ?_ ?_
              rotate_left
              · intro w'
                go_simp
                with_reducible rfl
              rotate_left
              · simp only [Act.put, List.setIfInBounds_toArray, List.set_cons_zero, List.set_cons_succ, i64_w, i32_w]
                rfl
              refine take_ (i := 10) (N := some 63) (v := ?_) (a' := ?_) #[true, true, true, true, true, true, true, true, true, true, true, false, false, false, false, false, false, false, false] rfl rfl (by kernel_rfl) (fun _ _ _ h => h) (Or.inl ⟨by rfl, ?_⟩) hHeld ?_ ?_
              rotate_left
              · rintro w' ⟨q0, q1, q2, q3, q4, q5⟩
                go_simp
                with_reducible rfl
              rotate_left
              · simp only [Act.put, List.setIfInBounds_toArray, List.set_cons_zero, List.set_cons_succ, i64_w, i32_w]
                rfl
              refine pure_ (i := 12) (N := some 65) (v := ?_) (a' := ?_) #[true, true, true, true, true, true, true, true, true, true, true, false, true, false, false, false, false, false, false] rfl rfl (by kernel_rfl) (fun _ _ _ h => h) (Or.inl ⟨by rfl, ?_⟩) ?_ ?_
              rotate_left
              · intro w'
                go_simp
                with_reducible rfl
              rotate_left
              · simp only [Act.put, List.setIfInBounds_toArray, List.set_cons_zero, List.set_cons_succ, i64_w, i32_w]
                rfl
              refine pure_ (i := 13) (N := some 66) (v := ?_) (a' := ?_) #[true, true, true, true, true, true, true, true, true, true, true, false, true, true, false, false, false, false, false] rfl rfl (by kernel_rfl) (fun _ _ _ h => h) (Or.inl ⟨by rfl, ?_⟩) ?_ ?_
              rotate_left
              · intro w'
                go_simp
                with_reducible rfl
              rotate_left
              · simp only [Act.put, List.setIfInBounds_toArray, List.set_cons_zero, List.set_cons_succ, i64_w, i32_w]
                rfl
              refine pure_ (i := 14) (N := some 67) (v := ?_) (a' := ?_) #[true, true, true, true, true, true, true, true, true, true, true, false, true, true, true, false, false, false, false] rfl rfl (by kernel_rfl) (fun _ _ _ h => h) (Or.inl ⟨by rfl, ?_⟩) ?_ ?_
              rotate_left
              · intro w'
                go_simp
                with_reducible rfl
              rotate_left
              · simp only [Act.put, List.setIfInBounds_toArray, List.set_cons_zero, List.set_cons_succ, i64_w, i32_w]
                rfl
              refine pure_ (i := 15) (N := some 68) (v := ?_) (a' := ?_) #[true, true, true, true, true, true, true, true, true, true, true, false, true, true, true, true, false, false, false] rfl rfl (by kernel_rfl) (fun _ _ _ h => h) (Or.inl ⟨by rfl, ?_⟩) ?_ ?_
              rotate_left
              · intro w'
                go_simp
                with_reducible rfl
              rotate_left
              · simp only [Act.put, List.setIfInBounds_toArray, List.set_cons_zero, List.set_cons_succ, i64_w, i32_w]
                rfl
              refine take_ (i := 16) (N := some 69) (v := ?_) (a' := ?_) #[true, true, true, true, true, true, true, true, true, true, true, false, true, true, true, true, true, false, false] rfl rfl (by kernel_rfl) (fun _ _ _ h => h) (Or.inl ⟨by rfl, ?_⟩) hHeld ?_ ?_
              rotate_left
              · rintro w' ⟨q0, q1, q2, q3, q4, q5⟩
                go_simp
                with_reducible rfl
              rotate_left
              · simp only [Act.put, List.setIfInBounds_toArray, List.set_cons_zero, List.set_cons_succ, i64_w, i32_w]
                rfl
              refine one_ (i := 11) (N := some 64) #[true, true, true, true, true, true, true, true, true, true, true, true, true, true, true, true, true, false, false] rfl rfl (by kernel_rfl) (by decide) (fun K hK => ?_)
              refine goes_ Tryz.func14 (by kernel_rfl) rfl #[.pointer (some ⟨d, 0, none⟩), .int .i64 x.fuse, .slice x.Ak x.keep.length x.ck] (by rfl) rfl rfl (by simp only [List.map_toArray, List.map_cons, List.map_nil]; rfl) ?_
              refine HNw.out.mono ?_
              rintro e w5 ⟨pb, Ap, cp, rfl, hP5, hB5, hpb⟩
              have HP5 := Lib.hid hP5
              have HB5 := Lib.hid hB5
              have HQ5 := Lib.hid (show w4.heap.size ≤ pb from hpb)
              clear hP5 hB5 hpb
              refine ⟨_, rfl, ?_⟩
              refine hK.out _ _ (SC.below hHeld HB5.out) (fun hHeld => ?_)
              clear hK K
              refine norm_ (a' := ?_) ?_ ?_
              rotate_left
              · show Act.put _ (some 64) _ = _
                simp only [Act.put, List.setIfInBounds_toArray, List.set_cons_zero, List.set_cons_succ, i64_w, i32_w]
                rfl
              refine one_ (i := 17) (N := some 70) #[true, true, true, true, true, true, true, true, true, true, true, true, true, true, true, true, true, true, false] rfl rfl (by kernel_rfl) (by decide) (fun K hK => ?_)
              refine goes_ Tryz.func13 (by kernel_rfl) rfl #[.pointer (some ⟨pb, 0, none⟩), .agg #[.int .u64 x.e, .int .u8 x.p, .slice x.A2 x.l2.length x.c2, .slice x.A3 x.l3.length x.c3]] (by rfl) rfl rfl (by simp only [List.map_toArray, List.map_cons, List.map_nil]; rfl) ?_
              have HBw := Lib.hid (HB4.out.trans ((show Below w4.heap.size w4 w5 from (Below.refl _ w4).drew.trans HB5.out).mono HB4.out.size))
              refine (swap_bad w5 (some ⟨pb, 0, none⟩) x.e x.p x.A2 x.c2 x.l2 x.A3 x.c3 x.l3 HX.out.e HX.out.p HX.out.nums (by have := HF.out; unfold few at this; simp only [Bool.and_eq_true, decide_eq_true_eq] at this; exact this.1) (by have := HF.out; unfold few at this; simp only [Bool.and_eq_true, decide_eq_true_eq] at this; exact this.2) (Kd.C_below HX.out.r2 HBw.out) HX.out.h2 (Kd.C_below HX.out.r3 HBw.out) HX.out.h3 (Crc.laid_below HLd.out HBw.out) (by rw [hok]; decide)).mono ?_
              rintro e w6 ⟨rfl, hB6⟩
              have HB6 := Lib.hid (HBw.out.trans (hB6.mono HBw.out.size))
              have HD6 := Lib.hid (HP5.out.disk.below hB6)
              have HBb6 := Lib.hid (show Below w4.heap.size w4 w6 from ((Below.refl _ w4).drew.trans HB5.out).trans (hB6.mono HB5.out.size))
              clear hB6
              have HS6 := Lib.hid (HC0.out.below HB6.out)
              refine ⟨_, rfl, ?_⟩
              refine hK.out _ _ HS6.out (fun hHeld => ?_)
              clear hK K
              refine norm_ (a' := ?_) ?_ ?_
              rotate_left
              · show Act.put _ (some 70) _ = _
                simp only [Act.put, List.setIfInBounds_toArray, List.set_cons_zero, List.set_cons_succ, i64_w, i32_w]
                rfl
              refine pure_ (i := 18) (N := some 7) (v := ?_) (a' := ?_) #[true, true, true, true, true, true, true, true, true, true, true, true, true, true, true, true, true, true, true] rfl rfl (by kernel_rfl) (fun _ _ _ h => h) (Or.inl ⟨by rfl, ?_⟩) ?_ ?_
              rotate_left
              · intro w'
                go_simp
                with_reducible rfl
              rotate_left
              · simp only [Act.put, List.setIfInBounds_toArray, List.set_cons_zero, List.set_cons_succ, i64_w, i32_w]
                rfl
              refine done_ (by kernel_rfl) ?_
              clear hHeld
              have HI6 := HI
              have HBk6 := Lib.hid (show Box26 w6 g5 m0 A2 c2' A3 c3' from (HBb6.out.block g5 (by omega)).trans HBk4.out)
              have HM6 := Lib.hid (HM4.out.below HBb6.out)
              generalize hL6 : L1 = L6 at *
              go_wp2_with fail
              refine (loads_calls w6 HD6.out (Crc.laid_below HLd.out HB6.out)).mono ?_
              have HR1 := Lib.hid (loadN_len (Dk.read (fs L6) Dk.mn))
              generalize hm1 : loadN (Dk.read (fs L6) Dk.mn) = m1 at *
              have HM1 := Lib.hid hm1
              clear hm1
              rintro e w7 ⟨B2, cb2, B3, cb3, rfl, hM7, hB7⟩
              have HM7 := Lib.hid hM7
              have HB7 := Lib.hid (HB6.out.trans (hB7.mono HB6.out.size))
              have HW7 := Lib.hid hB7
              clear hM7 hB7
              go_wp2_with fail
              have hBa := (Below.refl w7.heap.size w7).alloc (Nat.le_refl _) (.cells #[.int .u64 m1.1, .int .u8 m1.2.1, .slice B2 m1.2.2.1.length cb2, .slice B3 m1.2.2.2.1.length cb3] 26)
              have HBk8 := Lib.hid (show Box26 (w7.alloc (.cells #[.int .u64 m1.1, .int .u8 m1.2.1, .slice B2 m1.2.2.1.length cb2, .slice B3 m1.2.2.2.1.length cb3] 26)) w7.heap.size m1 B2 cb2 B3 cb3 from heap_alloc_new w7 _)
              have HB8 := Lib.hid (HB7.out.trans (hBa.mono HB7.out.size))
              have HW8 := Lib.hid (HW7.out.trans (hBa.mono HW7.out.size))
              have HM8 := Lib.hid (HM7.out.below hBa)
              clear hBa
              generalize w7.alloc (.cells #[.int .u64 m1.1, .int .u8 m1.2.1, .slice B2 m1.2.2.1.length cb2, .slice B3 m1.2.2.2.1.length cb3] 26) = w8 at *
              generalize w7.heap.size = g8 at *
              have HD8 := Lib.hid (HD6.out.below HW8.out)
              have HS8 := Lib.hid (HC0.out.below HB8.out)
              have HBk58 := Lib.hid (HBk6.out.below HW8.out)
              have HM58 := Lib.hid (HM6.out.below HW8.out)
              have hu26' := hu26
              have HR8 := HR1
              obtain rfl : m1 = m0 := HM0.out
              clear HM1 HM0
              obtain ⟨me, mp, ml2, ml3, mz⟩ := m1
              dsimp only at *
              by_cases h0 : mz = 0
              · have d0 : (mz == 0) = true := by simp [h0]
                clear h0
                refine start_ (n := 12) (S := (fun w' => SC w' (ad.add (i * 6)) x ∧ B4 w' g8 (me, mp, ml2, ml3, mz) B2 cb2 B3 cb3)) (ds := []) #[false, false, false, false, false, false, false, false, false, false, false, false] (by kernel_rfl) rfl rfl ⟨(show SC w8.drew (ad.add (i * 6)) x from HS8.out), (show B4 w8.drew g8 _ B2 cb2 B3 cb3 from Box26.b4 HBk8.out)⟩ (fun hHeld => ?_)
                refine pure_ (i := 0) (N := some 76) (v := ?_) (a' := ?_) #[true, false, false, false, false, false, false, false, false, false, false, false] rfl rfl (by kernel_rfl) (fun _ _ _ h => h) (Or.inl ⟨by rfl, ?_⟩) ?_ ?_
                rotate_left
                · intro w'
                  go_simp
                  with_reducible rfl
                rotate_left
                · simp only [Act.put, List.setIfInBounds_toArray, List.set_cons_zero, List.set_cons_succ, i64_w, i32_w]
                  rfl
                refine pure_ (i := 1) (N := some 77) (v := ?_) (a' := ?_) #[true, true, false, false, false, false, false, false, false, false, false, false] rfl rfl (by kernel_rfl) (fun _ _ _ h => h) (Or.inl ⟨by rfl, ?_⟩) ?_ ?_
                rotate_left
                · intro w'
                  go_simp
                  with_reducible rfl
                rotate_left
                · simp only [Act.put, List.setIfInBounds_toArray, List.set_cons_zero, List.set_cons_succ, i64_w, i32_w]
                  rfl
                refine pure_ (i := 2) (N := some 78) (v := ?_) (a' := ?_) #[true, true, true, false, false, false, false, false, false, false, false, false] rfl rfl (by kernel_rfl) (fun _ _ _ h => h) (Or.inl ⟨by rfl, ?_⟩) ?_ ?_
                rotate_left
                · intro w'
                  go_simp
                  with_reducible rfl
                rotate_left
                · simp only [Act.put, List.setIfInBounds_toArray, List.set_cons_zero, List.set_cons_succ, i64_w, i32_w]
                  rfl
                refine take_ (i := 3) (N := some 79) (v := ?_) (a' := ?_) #[true, true, true, true, false, false, false, false, false, false, false, false] rfl rfl (by kernel_rfl) (fun _ _ _ h => h) (Or.inl ⟨by rfl, ?_⟩) hHeld ?_ ?_
                rotate_left
                · rintro w' ⟨⟨q0, q1, q2, q3, q4, q5⟩, r0, r1, r2, r3⟩
                  go_simp
                  with_reducible rfl
                rotate_left
                · simp only [Act.put, List.setIfInBounds_toArray, List.set_cons_zero, List.set_cons_succ, i64_w, i32_w]
                  rfl
                refine pure_ (i := 4) (N := some 80) (v := ?_) (a' := ?_) #[true, true, true, true, true, false, false, false, false, false, false, false] rfl rfl (by kernel_rfl) (fun _ _ _ h => h) (Or.inl ⟨by rfl, ?_⟩) ?_ ?_
                rotate_left
                · intro w'
                  go_simp
                  with_reducible rfl
                rotate_left
                · simp only [Act.put, List.setIfInBounds_toArray, List.set_cons_zero, List.set_cons_succ, i64_w, i32_w]
                  rfl
                refine pure_ (i := 5) (N := some 81) (v := ?_) (a' := ?_) #[true, true, true, true, true, true, false, false, false, false, false, false] rfl rfl (by kernel_rfl) (fun _ _ _ h => h) (Or.inl ⟨by rfl, ?_⟩) ?_ ?_
                rotate_left
                · intro w'
                  go_simp
                  with_reducible rfl
                rotate_left
                · simp only [Act.put, List.setIfInBounds_toArray, List.set_cons_zero, List.set_cons_succ, i64_w, i32_w]
                  rfl
                refine pure_ (i := 6) (N := some 82) (v := ?_) (a' := ?_) #[true, true, true, true, true, true, true, false, false, false, false, false] rfl rfl (by kernel_rfl) (fun _ _ _ h => h) (Or.inl ⟨by rfl, ?_⟩) ?_ ?_
                rotate_left
                · intro w'
                  go_simp
                  with_reducible rfl
                rotate_left
                · simp only [Act.put, List.setIfInBounds_toArray, List.set_cons_zero, List.set_cons_succ, i64_w, i32_w]
                  rfl
                refine pure_ (i := 7) (N := some 83) (v := ?_) (a' := ?_) #[true, true, true, true, true, true, true, true, false, false, false, false] rfl rfl (by kernel_rfl) (fun _ _ _ h => h) (Or.inl ⟨by rfl, ?_⟩) ?_ ?_
                rotate_left
                · intro w'
                  go_simp
                  with_reducible rfl
                rotate_left
                · simp only [Act.put, List.setIfInBounds_toArray, List.set_cons_zero, List.set_cons_succ, i64_w, i32_w]
                  rfl
                refine take_ (i := 8) (N := some 84) (v := ?_) (a' := ?_) #[true, true, true, true, true, true, true, true, true, false, false, false] rfl rfl (by kernel_rfl) (fun _ _ _ h => h) (Or.inl ⟨by rfl, ?_⟩) hHeld ?_ ?_
                rotate_left
                · rintro w' ⟨⟨q0, q1, q2, q3, q4, q5⟩, r0, r1, r2, r3⟩
                  go_simp
                  with_reducible rfl
                rotate_left
                · simp only [Act.put, List.setIfInBounds_toArray, List.set_cons_zero, List.set_cons_succ, i64_w, i32_w]
                  rfl
                refine one_ (i := 9) (N := some 85) #[true, true, true, true, true, true, true, true, true, true, false, false] rfl rfl (by kernel_rfl) (by decide) (fun K hK => ?_)
                refine goes_ Tryz.func15 (by kernel_rfl) rfl #[.agg #[.int .u64 me, .int .u8 mp, .slice B2 ml2.length cb2, .slice B3 ml3.length cb3], .agg #[.int .u64 x.e, .int .u8 x.p, .slice x.A2 x.l2.length x.c2, .slice x.A3 x.l3.length x.c3]] (by rfl) rfl rfl (by simp only [List.map_toArray, List.map_cons, List.map_nil]; rfl) ?_
                refine (msame_calls w8.drew (me, mp, ml2, ml3, mz) (x.e, x.p, x.l2, x.l3, (0 : Int)) B2 cb2 B3 cb3 x.A2 x.c2 x.A3 x.c3 (MadeM.reads (HM8.out.below (Below.refl _ w8).drew)) (xreads HX.out (HB8.out.trans ((Below.refl _ w8).drew.mono HB8.out.size))) HR8.out).mono ?_
                rintro e w9 ⟨b, rfl, hbt, hB9⟩
                have hBx := (Below.refl _ w8).drew.trans hB9
                have HB9 := Lib.hid (HB8.out.trans (hBx.mono HB8.out.size))
                have HW9 := Lib.hid hBx
                have Hbt := Lib.hid hbt
                clear hB9 hBx hbt
                refine ⟨_, rfl, ?_⟩
                refine hK.out _ _ ⟨HS8.out.below HW9.out, Box26.b4 (HBk8.out.below HW9.out)⟩ (fun hHeld => ?_)
                clear hK K
                refine norm_ (a' := ?_) ?_ ?_
                rotate_left
                · show Act.put _ (some 85) _ = _
                  simp only [Act.put, List.setIfInBounds_toArray, List.set_cons_zero, List.set_cons_succ, i64_w, i32_w]
                  rfl
                refine pure_ (i := 10) (N := some 86) (v := ?_) (a' := ?_) #[true, true, true, true, true, true, true, true, true, true, true, false] rfl rfl (by kernel_rfl) (fun _ _ _ h => h) (Or.inl ⟨by rfl, ?_⟩) ?_ ?_
                rotate_left
                · intro w'
                  go_simp
                  with_reducible rfl
                rotate_left
                · simp only [Act.put, List.setIfInBounds_toArray, List.set_cons_zero, List.set_cons_succ, i64_w, i32_w]
                  rfl
                refine pure_ (i := 11) (N := some 10) (v := ?_) (a' := ?_) #[true, true, true, true, true, true, true, true, true, true, true, true] rfl rfl (by kernel_rfl) (fun _ _ _ h => h) (Or.inl ⟨by rfl, ?_⟩) ?_ ?_
                rotate_left
                · intro w'
                  go_simp
                  with_reducible rfl
                rotate_left
                · simp only [Act.put, List.setIfInBounds_toArray, List.set_cons_zero, List.set_cons_succ, i64_w, i32_w]
                  rfl
                refine done_ (by kernel_rfl) ?_
                have HD9 := Lib.hid (HD8.out.below HW9.out)
                have HBk9 := Lib.hid (HBk8.out.below HW9.out)
                have HM9 := Lib.hid (HM8.out.below HW9.out)
                have HBk59 := Lib.hid (HBk58.out.below HW9.out)
                have HM59 := Lib.hid (HM58.out.below HW9.out)
                obtain ⟨k0, k1, k2, k3⟩ := Box26.b4 HBk9.out
                obtain ⟨j0, j1, j2, j3⟩ := Box26.b4 HBk59.out
                dsimp only at k0 k1 k2 k3 j0 j1 j2 j3
                cases b with
                | true =>
                  clear Hbt
                  go_wp2_with fail
                  refine (msame_calls w9 (me, mp, ml2, ml3, mz) (me, mp, ml2, ml3, mz) B2 cb2 B3 cb3 A2 c2' A3 c3' (MadeM.reads HM9.out) (MadeM.reads HM59.out) HR8.out).mono ?_
                  rintro e w10 ⟨b2, rfl, hbt2, hB10⟩
                  have HB9 := Lib.hid (HB9.out.trans (hB10.mono HB9.out.size))
                  have HD8 := Lib.hid (HD9.out.below hB10)
                  have Hbt2 := Lib.hid hbt2
                  clear hB10 hbt2
                  obtain rfl := Hbt2.out rfl
                  go_wp2_with fail
                  go_roundw
                  case rel => exact ⟨i + 1, L6, by omega, by go_num, HD8.out, HI6.out, HB9.out⟩
                  case measure => simp [intOf]; omega
                | false =>
                  clear Hbt
                  go_wp2_with fail
                  refine (msame_calls w9 (me, mp, ml2, ml3, mz) (me, mp, ml2, ml3, mz) B2 cb2 B3 cb3 A2 c2' A3 c3' (MadeM.reads HM9.out) (MadeM.reads HM59.out) HR8.out).mono ?_
                  rintro e w10 ⟨b2, rfl, hbt2, hB10⟩
                  have HB9 := Lib.hid (HB9.out.trans (hB10.mono HB9.out.size))
                  have HD8 := Lib.hid (HD9.out.below hB10)
                  have Hbt2 := Lib.hid hbt2
                  clear hB10 hbt2
                  obtain rfl := Hbt2.out rfl
                  go_wp2_with fail
                  go_roundw
                  case rel => exact ⟨i + 1, L6, by omega, by go_num, HD8.out, HI6.out, HB9.out⟩
                  case measure => simp [intOf]; omega
              · have d0 : (mz == 0) = false := by simp [h0]
                clear h0
                refine start_ (n := 12) (S := (fun w' => SC w' (ad.add (i * 6)) x ∧ B4 w' g8 (me, mp, ml2, ml3, mz) B2 cb2 B3 cb3)) (ds := []) #[false, false, false, false, false, false, false, false, false, false, false, false] (by kernel_rfl) rfl rfl ⟨(show SC w8.drew (ad.add (i * 6)) x from HS8.out), (show B4 w8.drew g8 _ B2 cb2 B3 cb3 from Box26.b4 HBk8.out)⟩ (fun hHeld => ?_)
                refine pure_ (i := 0) (N := some 76) (v := ?_) (a' := ?_) #[true, false, false, false, false, false, false, false, false, false, false, false] rfl rfl (by kernel_rfl) (fun _ _ _ h => h) (Or.inl ⟨by rfl, ?_⟩) ?_ ?_
                rotate_left
                · intro w'
                  go_simp
                  with_reducible rfl
                rotate_left
                · simp only [Act.put, List.setIfInBounds_toArray, List.set_cons_zero, List.set_cons_succ, i64_w, i32_w]
                  rfl
                refine pure_ (i := 1) (N := some 77) (v := ?_) (a' := ?_) #[true, true, false, false, false, false, false, false, false, false, false, false] rfl rfl (by kernel_rfl) (fun _ _ _ h => h) (Or.inl ⟨by rfl, ?_⟩) ?_ ?_
                rotate_left
                · intro w'
                  go_simp
                  with_reducible rfl
                rotate_left
                · simp only [Act.put, List.setIfInBounds_toArray, List.set_cons_zero, List.set_cons_succ, i64_w, i32_w]
                  rfl
                refine pure_ (i := 2) (N := some 78) (v := ?_) (a' := ?_) #[true, true, true, false, false, false, false, false, false, false, false, false] rfl rfl (by kernel_rfl) (fun _ _ _ h => h) (Or.inl ⟨by rfl, ?_⟩) ?_ ?_
                rotate_left
                · intro w'
                  go_simp
                  with_reducible rfl
                rotate_left
                · simp only [Act.put, List.setIfInBounds_toArray, List.set_cons_zero, List.set_cons_succ, i64_w, i32_w]
                  rfl
                refine pure_ (i := 3) (N := some 79) (v := undef) #[true, true, true, true, false, false, false, false, false, false, false, false] rfl rfl (by kernel_rfl) (fun _ _ _ h => h) (Or.inr ⟨by rfl, rfl⟩) rfl ?_
                refine norm_ (a' := ?_) ?_ ?_
                rotate_left
                · show Act.put _ (some 79) _ = _
                  simp only [Act.put, List.setIfInBounds_toArray, List.set_cons_zero, List.set_cons_succ, i64_w, i32_w]
                  rfl
                refine pure_ (i := 4) (N := some 80) (v := undef) #[true, true, true, true, true, false, false, false, false, false, false, false] rfl rfl (by kernel_rfl) (fun _ _ _ h => h) (Or.inr ⟨by rfl, rfl⟩) rfl ?_
                refine norm_ (a' := ?_) ?_ ?_
                rotate_left
                · show Act.put _ (some 80) _ = _
                  simp only [Act.put, List.setIfInBounds_toArray, List.set_cons_zero, List.set_cons_succ, i64_w, i32_w]
                  rfl
                refine pure_ (i := 5) (N := some 81) (v := undef) #[true, true, true, true, true, true, false, false, false, false, false, false] rfl rfl (by kernel_rfl) (fun _ _ _ h => h) (Or.inr ⟨by rfl, rfl⟩) rfl ?_
                refine norm_ (a' := ?_) ?_ ?_
                rotate_left
                · show Act.put _ (some 81) _ = _
                  simp only [Act.put, List.setIfInBounds_toArray, List.set_cons_zero, List.set_cons_succ, i64_w, i32_w]
                  rfl
                refine pure_ (i := 6) (N := some 82) (v := undef) #[true, true, true, true, true, true, true, false, false, false, false, false] rfl rfl (by kernel_rfl) (fun _ _ _ h => h) (Or.inr ⟨by rfl, rfl⟩) rfl ?_
                refine norm_ (a' := ?_) ?_ ?_
                rotate_left
                · show Act.put _ (some 82) _ = _
                  simp only [Act.put, List.setIfInBounds_toArray, List.set_cons_zero, List.set_cons_succ, i64_w, i32_w]
                  rfl
                refine pure_ (i := 7) (N := some 83) (v := undef) #[true, true, true, true, true, true, true, true, false, false, false, false] rfl rfl (by kernel_rfl) (fun _ _ _ h => h) (Or.inr ⟨by rfl, rfl⟩) rfl ?_
                refine norm_ (a' := ?_) ?_ ?_
                rotate_left
                · show Act.put _ (some 83) _ = _
                  simp only [Act.put, List.setIfInBounds_toArray, List.set_cons_zero, List.set_cons_succ, i64_w, i32_w]
                  rfl
                refine pure_ (i := 8) (N := some 84) (v := undef) #[true, true, true, true, true, true, true, true, true, false, false, false] rfl rfl (by kernel_rfl) (fun _ _ _ h => h) (Or.inr ⟨by rfl, rfl⟩) rfl ?_
                refine norm_ (a' := ?_) ?_ ?_
                rotate_left
                · show Act.put _ (some 84) _ = _
                  simp only [Act.put, List.setIfInBounds_toArray, List.set_cons_zero, List.set_cons_succ, i64_w, i32_w]
                  rfl
                refine pure_ (i := 9) (N := some 85) (v := undef) #[true, true, true, true, true, true, true, true, true, true, false, false] rfl rfl (by kernel_rfl) (fun _ _ _ h => h) (Or.inr ⟨by rfl, rfl⟩) rfl ?_
                refine norm_ (a' := ?_) ?_ ?_
                rotate_left
                · show Act.put _ (some 85) _ = _
                  simp only [Act.put, List.setIfInBounds_toArray, List.set_cons_zero, List.set_cons_succ, i64_w, i32_w]
                  rfl
                refine pure_ (i := 10) (N := some 86) (v := ?_) (a' := ?_) #[true, true, true, true, true, true, true, true, true, true, true, false] rfl rfl (by kernel_rfl) (fun _ _ _ h => h) (Or.inl ⟨by rfl, ?_⟩) ?_ ?_
                rotate_left
                · intro w'
                  go_simp
                  with_reducible rfl
                rotate_left
                · simp only [Act.put, List.setIfInBounds_toArray, List.set_cons_zero, List.set_cons_succ, i64_w, i32_w]
                  rfl
                refine pure_ (i := 11) (N := some 10) (v := ?_) (a' := ?_) #[true, true, true, true, true, true, true, true, true, true, true, true] rfl rfl (by kernel_rfl) (fun _ _ _ h => h) (Or.inl ⟨by rfl, ?_⟩) ?_ ?_
                rotate_left
                · intro w'
                  go_simp
                  with_reducible rfl
                rotate_left
                · simp only [Act.put, List.setIfInBounds_toArray, List.set_cons_zero, List.set_cons_succ, i64_w, i32_w]
                  rfl
                refine done_ (by kernel_rfl) ?_
                have HB9 := Lib.hid (HB8.out.trans ((Below.refl _ w8).drew.mono HB8.out.size))
                have HW9 := Lib.hid (show Below w8.heap.size w8 w8.drew from (Below.refl _ w8).drew)
                generalize w8.drew = w9 at *
                have HD9 := Lib.hid (HD8.out.below HW9.out)
                have HBk9 := Lib.hid (HBk8.out.below HW9.out)
                have HM9 := Lib.hid (HM8.out.below HW9.out)
                have HBk59 := Lib.hid (HBk58.out.below HW9.out)
                have HM59 := Lib.hid (HM58.out.below HW9.out)
                obtain ⟨k0, k1, k2, k3⟩ := Box26.b4 HBk9.out
                obtain ⟨j0, j1, j2, j3⟩ := Box26.b4 HBk59.out
                dsimp only at k0 k1 k2 k3 j0 j1 j2 j3
                go_wp2_with fail
                refine (msame_calls w9 (me, mp, ml2, ml3, mz) (me, mp, ml2, ml3, mz) B2 cb2 B3 cb3 A2 c2' A3 c3' (MadeM.reads HM9.out) (MadeM.reads HM59.out) HR8.out).mono ?_
                rintro e w10 ⟨b2, rfl, hbt2, hB10⟩
                have HB9 := Lib.hid (HB9.out.trans (hB10.mono HB9.out.size))
                have HD8 := Lib.hid (HD9.out.below hB10)
                have Hbt2 := Lib.hid hbt2
                clear hB10 hbt2
                obtain rfl := Hbt2.out rfl
                go_wp2_with fail
                go_roundw
                case rel => exact ⟨i + 1, L6, by omega, by go_num, HD8.out, HI6.out, HB9.out⟩
                case measure => simp [intOf]; omega
            | true =>
              refine start_ (n := 19) (S := (fun w' => SC w' (ad.add (i * 6)) x)) (ds := []) #[false, false, false, false, false, false, false, false, false, false, false, false, false, false, false, false, false, false, false] (by kernel_rfl) rfl rfl (show SC w4.drew (ad.add (i * 6)) x from HS4.out) (fun hHeld => ?_)
              refine pure_ (i := 0) (N := some 53) (v := ?_) (a' := ?_) #[true, false, false, false, false, false, false, false, false, false, false, false, false, false, false, false, false, false, false] rfl rfl (by kernel_rfl) (fun _ _ _ h => h) (Or.inl ⟨by rfl, ?_⟩) ?_ ?_
              rotate_left
              · intro w'
                go_simp
                with_reducible rfl
              rotate_left
              · simp only [Act.put, List.setIfInBounds_toArray, List.set_cons_zero, List.set_cons_succ, i64_w, i32_w]
                rfl
              refine pure_ (i := 1) (N := some 54) (v := ?_) (a' := ?_) #[true, true, false, false, false, false, false, false, false, false, false, false, false, false, false, false, false, false, false] rfl rfl (by kernel_rfl) (fun _ _ _ h => h) (Or.inl ⟨by rfl, ?_⟩) ?_ ?_
              rotate_left
              · intro w'
                go_simp
                with_reducible rfl
              rotate_left
              · simp only [Act.put, List.setIfInBounds_toArray, List.set_cons_zero, List.set_cons_succ, i64_w, i32_w]
                rfl
              refine pure_ (i := 2) (N := some 55) (v := ?_) (a' := ?_) #[true, true, true, false, false, false, false, false, false, false, false, false, false, false, false, false, false, false, false] rfl rfl (by kernel_rfl) (fun _ _ _ h => h) (Or.inl ⟨by rfl, ?_⟩) ?_ ?_
              rotate_left
              · intro w'
                go_simp
                with_reducible rfl
              rotate_left
              · simp only [Act.put, List.setIfInBounds_toArray, List.set_cons_zero, List.set_cons_succ, i64_w, i32_w]
                rfl
              refine pure_ (i := 3) (N := some 56) (v := ?_) (a' := ?_) #[true, true, true, true, false, false, false, false, false, false, false, false, false, false, false, false, false, false, false] rfl rfl (by kernel_rfl) (fun _ _ _ h => h) (Or.inl ⟨by rfl, ?_⟩) ?_ ?_
              rotate_left
              · intro w'
                go_simp
                with_reducible rfl
              rotate_left
              · simp only [Act.put, List.setIfInBounds_toArray, List.set_cons_zero, List.set_cons_succ, i64_w, i32_w]
                rfl
              refine pure_ (i := 4) (N := some 57) (v := ?_) (a' := ?_) #[true, true, true, true, true, false, false, false, false, false, false, false, false, false, false, false, false, false, false] rfl rfl (by kernel_rfl) (fun _ _ _ h => h) (Or.inl ⟨by rfl, ?_⟩) ?_ ?_
              rotate_left
              · intro w'
                go_simp
                with_reducible rfl
              rotate_left
              · simp only [Act.put, List.setIfInBounds_toArray, List.set_cons_zero, List.set_cons_succ, i64_w, i32_w]
                rfl
              refine take_ (i := 5) (N := some 58) (v := ?_) (a' := ?_) #[true, true, true, true, true, true, false, false, false, false, false, false, false, false, false, false, false, false, false] rfl rfl (by kernel_rfl) (fun _ _ _ h => h) (Or.inl ⟨by rfl, ?_⟩) hHeld ?_ ?_
              rotate_left
              · rintro w' ⟨q0, q1, q2, q3, q4, q5⟩
                go_simp
                with_reducible rfl
              rotate_left
              · simp only [Act.put, List.setIfInBounds_toArray, List.set_cons_zero, List.set_cons_succ, i64_w, i32_w]
                rfl
              refine pure_ (i := 6) (N := some 59) (v := ?_) (a' := ?_) #[true, true, true, true, true, true, true, false, false, false, false, false, false, false, false, false, false, false, false] rfl rfl (by kernel_rfl) (fun _ _ _ h => h) (Or.inl ⟨by rfl, ?_⟩) ?_ ?_
              rotate_left
              · intro w'
                go_simp
                with_reducible rfl
              rotate_left
              · simp only [Act.put, List.setIfInBounds_toArray, List.set_cons_zero, List.set_cons_succ, i64_w, i32_w]
                rfl
              refine pure_ (i := 7) (N := some 60) (v := ?_) (a' := ?_) #[true, true, true, true, true, true, true, true, false, false, false, false, false, false, false, false, false, false, false] rfl rfl (by kernel_rfl) (fun _ _ _ h => h) (Or.inl ⟨by rfl, ?_⟩) ?_ ?_
              rotate_left
              · intro w'
                go_simp
                with_reducible rfl
              rotate_left
              · simp only [Act.put, List.setIfInBounds_toArray, List.set_cons_zero, List.set_cons_succ, i64_w, i32_w]
                rfl
              refine pure_ (i := 8) (N := some 61) (v := ?_) (a' := ?_) #[true, true, true, true, true, true, true, true, true, false, false, false, false, false, false, false, false, false, false] rfl rfl (by kernel_rfl) (fun _ _ _ h => h) (Or.inl ⟨by rfl, ?_⟩) ?_ ?_
              rotate_left
              · intro w'
                go_simp
                with_reducible rfl
              rotate_left
              · simp only [Act.put, List.setIfInBounds_toArray, List.set_cons_zero, List.set_cons_succ, i64_w, i32_w]
                rfl
              refine pure_ (i := 9) (N := some 62) (v := ?_) (a' := ?_) #[true, true, true, true, true, true, true, true, true, true, false, false, false, false, false, false, false, false, false] rfl rfl (by kernel_rfl) (fun _ _ _ h => h) (Or.inl ⟨by rfl, ?_⟩) ?_ ?_
              rotate_left
              · intro w'
                go_simp
                with_reducible rfl
              rotate_left
              · simp only [Act.put, List.setIfInBounds_toArray, List.set_cons_zero, List.set_cons_succ, i64_w, i32_w]
                rfl
              refine take_ (i := 10) (N := some 63) (v := ?_) (a' := ?_) #[true, true, true, true, true, true, true, true, true, true, true, false, false, false, false, false, false, false, false] rfl rfl (by kernel_rfl) (fun _ _ _ h => h) (Or.inl ⟨by rfl, ?_⟩) hHeld ?_ ?_
              rotate_left
              · rintro w' ⟨q0, q1, q2, q3, q4, q5⟩
                go_simp
                with_reducible rfl
              rotate_left
              · simp only [Act.put, List.setIfInBounds_toArray, List.set_cons_zero, List.set_cons_succ, i64_w, i32_w]
                rfl
              refine pure_ (i := 12) (N := some 65) (v := ?_) (a' := ?_) #[true, true, true, true, true, true, true, true, true, true, true, false, true, false, false, false, false, false, false] rfl rfl (by kernel_rfl) (fun _ _ _ h => h) (Or.inl ⟨by rfl, ?_⟩) ?_ ?_
              rotate_left
              · intro w'
                go_simp
                with_reducible rfl
              rotate_left
              · simp only [Act.put, List.setIfInBounds_toArray, List.set_cons_zero, List.set_cons_succ, i64_w, i32_w]
                rfl
              refine pure_ (i := 13) (N := some 66) (v := ?_) (a' := ?_) #[true, true, true, true, true, true, true, true, true, true, true, false, true, true, false, false, false, false, false] rfl rfl (by kernel_rfl) (fun _ _ _ h => h) (Or.inl ⟨by rfl, ?_⟩) ?_ ?_
              rotate_left
              · intro w'
                go_simp
                with_reducible rfl
              rotate_left
              · simp only [Act.put, List.setIfInBounds_toArray, List.set_cons_zero, List.set_cons_succ, i64_w, i32_w]
                rfl
              refine pure_ (i := 14) (N := some 67) (v := ?_) (a' := ?_) #[true, true, true, true, true, true, true, true, true, true, true, false, true, true, true, false, false, false, false] rfl rfl (by kernel_rfl) (fun _ _ _ h => h) (Or.inl ⟨by rfl, ?_⟩) ?_ ?_
              rotate_left
              · intro w'
                go_simp
                with_reducible rfl
              rotate_left
              · simp only [Act.put, List.setIfInBounds_toArray, List.set_cons_zero, List.set_cons_succ, i64_w, i32_w]
                rfl
              refine pure_ (i := 15) (N := some 68) (v := ?_) (a' := ?_) #[true, true, true, true, true, true, true, true, true, true, true, false, true, true, true, true, false, false, false] rfl rfl (by kernel_rfl) (fun _ _ _ h => h) (Or.inl ⟨by rfl, ?_⟩) ?_ ?_
              rotate_left
              · intro w'
                go_simp
                with_reducible rfl
              rotate_left
              · simp only [Act.put, List.setIfInBounds_toArray, List.set_cons_zero, List.set_cons_succ, i64_w, i32_w]
                rfl
              refine take_ (i := 16) (N := some 69) (v := ?_) (a' := ?_) #[true, true, true, true, true, true, true, true, true, true, true, false, true, true, true, true, true, false, false] rfl rfl (by kernel_rfl) (fun _ _ _ h => h) (Or.inl ⟨by rfl, ?_⟩) hHeld ?_ ?_
              rotate_left
              · rintro w' ⟨q0, q1, q2, q3, q4, q5⟩
                go_simp
                with_reducible rfl
              rotate_left
              · simp only [Act.put, List.setIfInBounds_toArray, List.set_cons_zero, List.set_cons_succ, i64_w, i32_w]
                rfl
              refine one_ (i := 11) (N := some 64) #[true, true, true, true, true, true, true, true, true, true, true, true, true, true, true, true, true, false, false] rfl rfl (by kernel_rfl) (by decide) (fun K hK => ?_)
              refine goes_ Tryz.func14 (by kernel_rfl) rfl #[.pointer (some ⟨d, 0, none⟩), .int .i64 x.fuse, .slice x.Ak x.keep.length x.ck] (by rfl) rfl rfl (by simp only [List.map_toArray, List.map_cons, List.map_nil]; rfl) ?_
              refine HNw.out.mono ?_
              rintro e w5 ⟨pb, Ap, cp, rfl, hP5, hB5, hpb⟩
              have HP5 := Lib.hid hP5
              have HB5 := Lib.hid hB5
              have HQ5 := Lib.hid (show w4.heap.size ≤ pb from hpb)
              clear hP5 hB5 hpb
              refine ⟨_, rfl, ?_⟩
              refine hK.out _ _ (SC.below hHeld HB5.out) (fun hHeld => ?_)
              clear hK K
              refine norm_ (a' := ?_) ?_ ?_
              rotate_left
              · show Act.put _ (some 64) _ = _
                simp only [Act.put, List.setIfInBounds_toArray, List.set_cons_zero, List.set_cons_succ, i64_w, i32_w]
                rfl
              refine one_ (i := 17) (N := some 70) #[true, true, true, true, true, true, true, true, true, true, true, true, true, true, true, true, true, true, false] rfl rfl (by kernel_rfl) (by decide) (fun K hK => ?_)
              refine goes_ Tryz.func13 (by kernel_rfl) rfl #[.pointer (some ⟨pb, 0, none⟩), .agg #[.int .u64 x.e, .int .u8 x.p, .slice x.A2 x.l2.length x.c2, .slice x.A3 x.l3.length x.c3]] (by rfl) rfl rfl (by simp only [List.map_toArray, List.map_cons, List.map_nil]; rfl) ?_
              have HBw := Lib.hid (HB4.out.trans ((show Below w4.heap.size w4 w5 from (Below.refl _ w4).drew.trans HB5.out).mono HB4.out.size))
              refine (swap_calls w5 (k := ⟨w.heap.size, d, mb, 100000, pb, x.fuse, Ap, cp, x.keep⟩) (s := ⟨fs L1, 0, false⟩) HP5.out rfl (show (0 : Nat) < 900000000 by decide) HX.out.fuse x.e x.p x.A2 x.c2 x.l2 x.A3 x.c3 x.l3 HX.out.e HX.out.p HX.out.nums (Kd.C_below HX.out.r2 HBw.out) HX.out.h2 (Kd.C_below HX.out.r3 HBw.out) HX.out.h3 (Crc.laid_below HLd.out HBw.out) hok).mono ?_
              rintro e w6 ⟨rfl, hB6, L6, hL6, hP6, hT6⟩
              have HE6 := Lib.hid (swap_law 100000 (by decide) x.fuse x.keep (mtext x.e x.p x.l2 x.l3) (mtext_len hok) (fs L1) 0 HI.out)
              dsimp only at hL6 hP6 hT6
              generalize swapS 100000 x.fuse x.keep (mtext x.e x.p x.l2 x.l3) ⟨fs L1, 0, false⟩ = r at *
              have HB6 := Lib.hid (HBw.out.trans (show Below w.heap.size w5 w6 from hB6))
              have HD6 := Lib.hid (show IsD w6 w.heap.size d mb 100000 L6 from hP6.disk)
              have HL6 := Lib.hid hL6
              have HT6 := Lib.hid hT6
              clear hB6 hL6 hP6 hT6
              have HS6 := Lib.hid (HC0.out.below HB6.out)
              refine ⟨_, rfl, ?_⟩
              refine hK.out _ _ HS6.out (fun hHeld => ?_)
              clear hK K
              refine norm_ (a' := ?_) ?_ ?_
              rotate_left
              · show Act.put _ (some 70) _ = _
                simp only [Act.put, List.setIfInBounds_toArray, List.set_cons_zero, List.set_cons_succ, i64_w, i32_w]
                rfl
              refine pure_ (i := 18) (N := some 7) (v := ?_) (a' := ?_) #[true, true, true, true, true, true, true, true, true, true, true, true, true, true, true, true, true, true, true] rfl rfl (by kernel_rfl) (fun _ _ _ h => h) (Or.inl ⟨by rfl, ?_⟩) ?_ ?_
              rotate_left
              · intro w'
                go_simp
                with_reducible rfl
              rotate_left
              · simp only [Act.put, List.setIfInBounds_toArray, List.set_cons_zero, List.set_cons_succ, i64_w, i32_w]
                rfl
              refine done_ (by kernel_rfl) ?_
              clear hHeld
              have HI6 := Lib.hid (show Inv (fs L6) from by rw [HL6.out]; exact HE6.out.inv)
              have HKp := Lib.hid (show ∀ j, w2.heap.size ≤ j → j < w4.heap.size → w6.heap[j]? = w4.heap[j]? from fun j h1 h2 => by
                have hb : Below w4.heap.size w4 w5 := (Below.refl _ w4).drew.trans HB5.out
                have h3 := hb.size
                exact (HT6.out.apt j (by omega) (by have := HL2.out.1; dsimp only; omega) (by have := HQ5.out; dsimp only; omega) (fun r hr e => by have := HL2.out.2 r hr; omega)).trans (hb.block j h2))
              have HBk6 := Lib.hid (show Box26 w6 g5 m0 A2 c2' A3 c3' from (HKp.out g5 hs23 (by omega)).trans HBk4.out)
              have HM6 := Lib.hid (HM4.out.move HKp.out)
              go_wp2_with fail
              refine (loads_calls w6 HD6.out (Crc.laid_below HLd.out HB6.out)).mono ?_
              have HR1 := Lib.hid (loadN_len (Dk.read (fs L6) Dk.mn))
              generalize hm1 : loadN (Dk.read (fs L6) Dk.mn) = m1 at *
              have HM1 := Lib.hid hm1
              clear hm1
              rintro e w7 ⟨B2, cb2, B3, cb3, rfl, hM7, hB7⟩
              have HM7 := Lib.hid hM7
              have HB7 := Lib.hid (HB6.out.trans (hB7.mono HB6.out.size))
              have HW7 := Lib.hid hB7
              clear hM7 hB7
              go_wp2_with fail
              have hBa := (Below.refl w7.heap.size w7).alloc (Nat.le_refl _) (.cells #[.int .u64 m1.1, .int .u8 m1.2.1, .slice B2 m1.2.2.1.length cb2, .slice B3 m1.2.2.2.1.length cb3] 26)
              have HBk8 := Lib.hid (show Box26 (w7.alloc (.cells #[.int .u64 m1.1, .int .u8 m1.2.1, .slice B2 m1.2.2.1.length cb2, .slice B3 m1.2.2.2.1.length cb3] 26)) w7.heap.size m1 B2 cb2 B3 cb3 from heap_alloc_new w7 _)
              have HB8 := Lib.hid (HB7.out.trans (hBa.mono HB7.out.size))
              have HW8 := Lib.hid (HW7.out.trans (hBa.mono HW7.out.size))
              have HM8 := Lib.hid (HM7.out.below hBa)
              clear hBa
              generalize w7.alloc (.cells #[.int .u64 m1.1, .int .u8 m1.2.1, .slice B2 m1.2.2.1.length cb2, .slice B3 m1.2.2.2.1.length cb3] 26) = w8 at *
              generalize w7.heap.size = g8 at *
              have HD8 := Lib.hid (HD6.out.below HW8.out)
              have HS8 := Lib.hid (HC0.out.below HB8.out)
              have HBk58 := Lib.hid (HBk6.out.below HW8.out)
              have HM58 := Lib.hid (HM6.out.below HW8.out)
              have hu26' := hu26
              obtain ⟨rs, rz⟩ := r
              have HHow := Lib.hid (show (m1 = m0 ∧ rz = 8) ∨ (m1 = (x.e, x.p, x.l2, x.l3, 0) ∧ (rz = 0 ∨ rz = 8)) from by
                have hn : Dk.get (fs L6) Dk.mn = some ⟨mtext x.e x.p x.l2 x.l3, (mtext x.e x.p x.l2 x.l3).length⟩ → m1 = (x.e, x.p, x.l2, x.l3, 0) := fun hg => by
                  rw [← HM1.out, read_new hg]
                  exact take_mtext HX.out.e HX.out.p HX.out.nums hok
                rcases HE6.out.how with ⟨h1, h2⟩ | ⟨h1, h2 | h2⟩
                · exact Or.inr ⟨hn (by rw [HL6.out]; exact h2), Or.inl h1⟩
                · exact Or.inl ⟨HM1.out.symm.trans ((congrArg loadN (read_same (show get (fs L6) Dk.mn = get (fs L1) Dk.mn from by rw [HL6.out]; exact h2))).trans HM0.out), h1⟩
                · exact Or.inr ⟨hn (by rw [HL6.out]; exact h2), Or.inr h1⟩)
              clear HM1 HE6 HT6 HKp HL6 HM0
              have HR8 := HR1
              rcases HHow.out with ⟨rfl, rfl⟩ | ⟨rfl, rfl | rfl⟩
              · as_aux_lemma =>
                  obtain ⟨me, mp, ml2, ml3, mz⟩ := m1
                  dsimp only at *
                  by_cases h0 : mz = 0
                  · have d0 : (mz == 0) = true := by simp [h0]
                    clear h0
                    refine start_ (n := 12) (S := (fun w' => SC w' (ad.add (i * 6)) x ∧ B4 w' g8 (me, mp, ml2, ml3, mz) B2 cb2 B3 cb3)) (ds := []) #[false, false, false, false, false, false, false, false, false, false, false, false] (by kernel_rfl) rfl rfl ⟨(show SC w8.drew (ad.add (i * 6)) x from HS8.out), (show B4 w8.drew g8 _ B2 cb2 B3 cb3 from Box26.b4 HBk8.out)⟩ (fun hHeld => ?_)
                    refine pure_ (i := 0) (N := some 76) (v := ?_) (a' := ?_) #[true, false, false, false, false, false, false, false, false, false, false, false] rfl rfl (by kernel_rfl) (fun _ _ _ h => h) (Or.inl ⟨by rfl, ?_⟩) ?_ ?_
                    rotate_left
                    · intro w'
                      go_simp
                      with_reducible rfl
                    rotate_left
                    · simp only [Act.put, List.setIfInBounds_toArray, List.set_cons_zero, List.set_cons_succ, i64_w, i32_w]
                      rfl
                    refine pure_ (i := 1) (N := some 77) (v := ?_) (a' := ?_) #[true, true, false, false, false, false, false, false, false, false, false, false] rfl rfl (by kernel_rfl) (fun _ _ _ h => h) (Or.inl ⟨by rfl, ?_⟩) ?_ ?_
                    rotate_left
                    · intro w'
                      go_simp
                      with_reducible rfl
                    rotate_left
                    · simp only [Act.put, List.setIfInBounds_toArray, List.set_cons_zero, List.set_cons_succ, i64_w, i32_w]
                      rfl
                    refine pure_ (i := 2) (N := some 78) (v := ?_) (a' := ?_) #[true, true, true, false, false, false, false, false, false, false, false, false] rfl rfl (by kernel_rfl) (fun _ _ _ h => h) (Or.inl ⟨by rfl, ?_⟩) ?_ ?_
                    rotate_left
                    · intro w'
                      go_simp
                      with_reducible rfl
                    rotate_left
                    · simp only [Act.put, List.setIfInBounds_toArray, List.set_cons_zero, List.set_cons_succ, i64_w, i32_w]
                      rfl
                    refine take_ (i := 3) (N := some 79) (v := ?_) (a' := ?_) #[true, true, true, true, false, false, false, false, false, false, false, false] rfl rfl (by kernel_rfl) (fun _ _ _ h => h) (Or.inl ⟨by rfl, ?_⟩) hHeld ?_ ?_
                    rotate_left
                    · rintro w' ⟨⟨q0, q1, q2, q3, q4, q5⟩, r0, r1, r2, r3⟩
                      go_simp
                      with_reducible rfl
                    rotate_left
                    · simp only [Act.put, List.setIfInBounds_toArray, List.set_cons_zero, List.set_cons_succ, i64_w, i32_w]
                      rfl
                    refine pure_ (i := 4) (N := some 80) (v := ?_) (a' := ?_) #[true, true, true, true, true, false, false, false, false, false, false, false] rfl rfl (by kernel_rfl) (fun _ _ _ h => h) (Or.inl ⟨by rfl, ?_⟩) ?_ ?_
                    rotate_left
                    · intro w'
                      go_simp
                      with_reducible rfl
                    rotate_left
                    · simp only [Act.put, List.setIfInBounds_toArray, List.set_cons_zero, List.set_cons_succ, i64_w, i32_w]
                      rfl
                    refine pure_ (i := 5) (N := some 81) (v := ?_) (a' := ?_) #[true, true, true, true, true, true, false, false, false, false, false, false] rfl rfl (by kernel_rfl) (fun _ _ _ h => h) (Or.inl ⟨by rfl, ?_⟩) ?_ ?_
                    rotate_left
                    · intro w'
                      go_simp
                      with_reducible rfl
                    rotate_left
                    · simp only [Act.put, List.setIfInBounds_toArray, List.set_cons_zero, List.set_cons_succ, i64_w, i32_w]
                      rfl
                    refine pure_ (i := 6) (N := some 82) (v := ?_) (a' := ?_) #[true, true, true, true, true, true, true, false, false, false, false, false] rfl rfl (by kernel_rfl) (fun _ _ _ h => h) (Or.inl ⟨by rfl, ?_⟩) ?_ ?_
                    rotate_left
                    · intro w'
                      go_simp
                      with_reducible rfl
                    rotate_left
                    · simp only [Act.put, List.setIfInBounds_toArray, List.set_cons_zero, List.set_cons_succ, i64_w, i32_w]
                      rfl
                    refine pure_ (i := 7) (N := some 83) (v := ?_) (a' := ?_) #[true, true, true, true, true, true, true, true, false, false, false, false] rfl rfl (by kernel_rfl) (fun _ _ _ h => h) (Or.inl ⟨by rfl, ?_⟩) ?_ ?_
                    rotate_left
                    · intro w'
                      go_simp
                      with_reducible rfl
                    rotate_left
                    · simp only [Act.put, List.setIfInBounds_toArray, List.set_cons_zero, List.set_cons_succ, i64_w, i32_w]
                      rfl
                    refine take_ (i := 8) (N := some 84) (v := ?_) (a' := ?_) #[true, true, true, true, true, true, true, true, true, false, false, false] rfl rfl (by kernel_rfl) (fun _ _ _ h => h) (Or.inl ⟨by rfl, ?_⟩) hHeld ?_ ?_
                    rotate_left
                    · rintro w' ⟨⟨q0, q1, q2, q3, q4, q5⟩, r0, r1, r2, r3⟩
                      go_simp
                      with_reducible rfl
                    rotate_left
                    · simp only [Act.put, List.setIfInBounds_toArray, List.set_cons_zero, List.set_cons_succ, i64_w, i32_w]
                      rfl
                    refine one_ (i := 9) (N := some 85) #[true, true, true, true, true, true, true, true, true, true, false, false] rfl rfl (by kernel_rfl) (by decide) (fun K hK => ?_)
                    refine goes_ Tryz.func15 (by kernel_rfl) rfl #[.agg #[.int .u64 me, .int .u8 mp, .slice B2 ml2.length cb2, .slice B3 ml3.length cb3], .agg #[.int .u64 x.e, .int .u8 x.p, .slice x.A2 x.l2.length x.c2, .slice x.A3 x.l3.length x.c3]] (by rfl) rfl rfl (by simp only [List.map_toArray, List.map_cons, List.map_nil]; rfl) ?_
                    refine (msame_calls w8.drew (me, mp, ml2, ml3, mz) (x.e, x.p, x.l2, x.l3, (0 : Int)) B2 cb2 B3 cb3 x.A2 x.c2 x.A3 x.c3 (MadeM.reads (HM8.out.below (Below.refl _ w8).drew)) (xreads HX.out (HB8.out.trans ((Below.refl _ w8).drew.mono HB8.out.size))) HR8.out).mono ?_
                    rintro e w9 ⟨b, rfl, hbt, hB9⟩
                    have hBx := (Below.refl _ w8).drew.trans hB9
                    have HB9 := Lib.hid (HB8.out.trans (hBx.mono HB8.out.size))
                    have HW9 := Lib.hid hBx
                    have Hbt := Lib.hid hbt
                    clear hB9 hBx hbt
                    refine ⟨_, rfl, ?_⟩
                    refine hK.out _ _ ⟨HS8.out.below HW9.out, Box26.b4 (HBk8.out.below HW9.out)⟩ (fun hHeld => ?_)
                    clear hK K
                    refine norm_ (a' := ?_) ?_ ?_
                    rotate_left
                    · show Act.put _ (some 85) _ = _
                      simp only [Act.put, List.setIfInBounds_toArray, List.set_cons_zero, List.set_cons_succ, i64_w, i32_w]
                      rfl
                    refine pure_ (i := 10) (N := some 86) (v := ?_) (a' := ?_) #[true, true, true, true, true, true, true, true, true, true, true, false] rfl rfl (by kernel_rfl) (fun _ _ _ h => h) (Or.inl ⟨by rfl, ?_⟩) ?_ ?_
                    rotate_left
                    · intro w'
                      go_simp
                      with_reducible rfl
                    rotate_left
                    · simp only [Act.put, List.setIfInBounds_toArray, List.set_cons_zero, List.set_cons_succ, i64_w, i32_w]
                      rfl
                    refine pure_ (i := 11) (N := some 10) (v := ?_) (a' := ?_) #[true, true, true, true, true, true, true, true, true, true, true, true] rfl rfl (by kernel_rfl) (fun _ _ _ h => h) (Or.inl ⟨by rfl, ?_⟩) ?_ ?_
                    rotate_left
                    · intro w'
                      go_simp
                      with_reducible rfl
                    rotate_left
                    · simp only [Act.put, List.setIfInBounds_toArray, List.set_cons_zero, List.set_cons_succ, i64_w, i32_w]
                      rfl
                    refine done_ (by kernel_rfl) ?_
                    have HD9 := Lib.hid (HD8.out.below HW9.out)
                    have HBk9 := Lib.hid (HBk8.out.below HW9.out)
                    have HM9 := Lib.hid (HM8.out.below HW9.out)
                    have HBk59 := Lib.hid (HBk58.out.below HW9.out)
                    have HM59 := Lib.hid (HM58.out.below HW9.out)
                    obtain ⟨k0, k1, k2, k3⟩ := Box26.b4 HBk9.out
                    obtain ⟨j0, j1, j2, j3⟩ := Box26.b4 HBk59.out
                    dsimp only at k0 k1 k2 k3 j0 j1 j2 j3
                    cases b with
                    | true =>
                      clear Hbt
                      go_wp2_with fail
                      refine (msame_calls w9 (me, mp, ml2, ml3, mz) (me, mp, ml2, ml3, mz) B2 cb2 B3 cb3 A2 c2' A3 c3' (MadeM.reads HM9.out) (MadeM.reads HM59.out) HR8.out).mono ?_
                      rintro e w10 ⟨b2, rfl, hbt2, hB10⟩
                      have HB9 := Lib.hid (HB9.out.trans (hB10.mono HB9.out.size))
                      have HD8 := Lib.hid (HD9.out.below hB10)
                      have Hbt2 := Lib.hid hbt2
                      clear hB10 hbt2
                      obtain rfl := Hbt2.out rfl
                      go_wp2_with fail
                      go_roundw
                      case rel => exact ⟨i + 1, L6, by omega, by go_num, HD8.out, HI6.out, HB9.out⟩
                      case measure => simp [intOf]; omega
                    | false =>
                      clear Hbt
                      go_wp2_with fail
                      refine (msame_calls w9 (me, mp, ml2, ml3, mz) (me, mp, ml2, ml3, mz) B2 cb2 B3 cb3 A2 c2' A3 c3' (MadeM.reads HM9.out) (MadeM.reads HM59.out) HR8.out).mono ?_
                      rintro e w10 ⟨b2, rfl, hbt2, hB10⟩
                      have HB9 := Lib.hid (HB9.out.trans (hB10.mono HB9.out.size))
                      have HD8 := Lib.hid (HD9.out.below hB10)
                      have Hbt2 := Lib.hid hbt2
                      clear hB10 hbt2
                      obtain rfl := Hbt2.out rfl
                      go_wp2_with fail
                      go_roundw
                      case rel => exact ⟨i + 1, L6, by omega, by go_num, HD8.out, HI6.out, HB9.out⟩
                      case measure => simp [intOf]; omega
                  · have d0 : (mz == 0) = false := by simp [h0]
                    clear h0
                    refine start_ (n := 12) (S := (fun w' => SC w' (ad.add (i * 6)) x ∧ B4 w' g8 (me, mp, ml2, ml3, mz) B2 cb2 B3 cb3)) (ds := []) #[false, false, false, false, false, false, false, false, false, false, false, false] (by kernel_rfl) rfl rfl ⟨(show SC w8.drew (ad.add (i * 6)) x from HS8.out), (show B4 w8.drew g8 _ B2 cb2 B3 cb3 from Box26.b4 HBk8.out)⟩ (fun hHeld => ?_)
                    refine pure_ (i := 0) (N := some 76) (v := ?_) (a' := ?_) #[true, false, false, false, false, false, false, false, false, false, false, false] rfl rfl (by kernel_rfl) (fun _ _ _ h => h) (Or.inl ⟨by rfl, ?_⟩) ?_ ?_
                    rotate_left
                    · intro w'
                      go_simp
                      with_reducible rfl
                    rotate_left
                    · simp only [Act.put, List.setIfInBounds_toArray, List.set_cons_zero, List.set_cons_succ, i64_w, i32_w]
                      rfl
                    refine pure_ (i := 1) (N := some 77) (v := ?_) (a' := ?_) #[true, true, false, false, false, false, false, false, false, false, false, false] rfl rfl (by kernel_rfl) (fun _ _ _ h => h) (Or.inl ⟨by rfl, ?_⟩) ?_ ?_
                    rotate_left
                    · intro w'
                      go_simp
                      with_reducible rfl
                    rotate_left
                    · simp only [Act.put, List.setIfInBounds_toArray, List.set_cons_zero, List.set_cons_succ, i64_w, i32_w]
                      rfl
                    refine pure_ (i := 2) (N := some 78) (v := ?_) (a' := ?_) #[true, true, true, false, false, false, false, false, false, false, false, false] rfl rfl (by kernel_rfl) (fun _ _ _ h => h) (Or.inl ⟨by rfl, ?_⟩) ?_ ?_
                    rotate_left
                    · intro w'
                      go_simp
                      with_reducible rfl
                    rotate_left
                    · simp only [Act.put, List.setIfInBounds_toArray, List.set_cons_zero, List.set_cons_succ, i64_w, i32_w]
                      rfl
                    refine pure_ (i := 3) (N := some 79) (v := undef) #[true, true, true, true, false, false, false, false, false, false, false, false] rfl rfl (by kernel_rfl) (fun _ _ _ h => h) (Or.inr ⟨by rfl, rfl⟩) rfl ?_
                    refine norm_ (a' := ?_) ?_ ?_
                    rotate_left
                    · show Act.put _ (some 79) _ = _
                      simp only [Act.put, List.setIfInBounds_toArray, List.set_cons_zero, List.set_cons_succ, i64_w, i32_w]
                      rfl
                    refine pure_ (i := 4) (N := some 80) (v := undef) #[true, true, true, true, true, false, false, false, false, false, false, false] rfl rfl (by kernel_rfl) (fun _ _ _ h => h) (Or.inr ⟨by rfl, rfl⟩) rfl ?_
                    refine norm_ (a' := ?_) ?_ ?_
                    rotate_left
                    · show Act.put _ (some 80) _ = _
                      simp only [Act.put, List.setIfInBounds_toArray, List.set_cons_zero, List.set_cons_succ, i64_w, i32_w]
                      rfl
                    refine pure_ (i := 5) (N := some 81) (v := undef) #[true, true, true, true, true, true, false, false, false, false, false, false] rfl rfl (by kernel_rfl) (fun _ _ _ h => h) (Or.inr ⟨by rfl, rfl⟩) rfl ?_
                    refine norm_ (a' := ?_) ?_ ?_
                    rotate_left
                    · show Act.put _ (some 81) _ = _
                      simp only [Act.put, List.setIfInBounds_toArray, List.set_cons_zero, List.set_cons_succ, i64_w, i32_w]
                      rfl
                    refine pure_ (i := 6) (N := some 82) (v := undef) #[true, true, true, true, true, true, true, false, false, false, false, false] rfl rfl (by kernel_rfl) (fun _ _ _ h => h) (Or.inr ⟨by rfl, rfl⟩) rfl ?_
                    refine norm_ (a' := ?_) ?_ ?_
                    rotate_left
                    · show Act.put _ (some 82) _ = _
                      simp only [Act.put, List.setIfInBounds_toArray, List.set_cons_zero, List.set_cons_succ, i64_w, i32_w]
                      rfl
                    refine pure_ (i := 7) (N := some 83) (v := undef) #[true, true, true, true, true, true, true, true, false, false, false, false] rfl rfl (by kernel_rfl) (fun _ _ _ h => h) (Or.inr ⟨by rfl, rfl⟩) rfl ?_
                    refine norm_ (a' := ?_) ?_ ?_
                    rotate_left
                    · show Act.put _ (some 83) _ = _
                      simp only [Act.put, List.setIfInBounds_toArray, List.set_cons_zero, List.set_cons_succ, i64_w, i32_w]
                      rfl
                    refine pure_ (i := 8) (N := some 84) (v := undef) #[true, true, true, true, true, true, true, true, true, false, false, false] rfl rfl (by kernel_rfl) (fun _ _ _ h => h) (Or.inr ⟨by rfl, rfl⟩) rfl ?_
                    refine norm_ (a' := ?_) ?_ ?_
                    rotate_left
                    · show Act.put _ (some 84) _ = _
                      simp only [Act.put, List.setIfInBounds_toArray, List.set_cons_zero, List.set_cons_succ, i64_w, i32_w]
                      rfl
                    refine pure_ (i := 9) (N := some 85) (v := undef) #[true, true, true, true, true, true, true, true, true, true, false, false] rfl rfl (by kernel_rfl) (fun _ _ _ h => h) (Or.inr ⟨by rfl, rfl⟩) rfl ?_
                    refine norm_ (a' := ?_) ?_ ?_
                    rotate_left
                    · show Act.put _ (some 85) _ = _
                      simp only [Act.put, List.setIfInBounds_toArray, List.set_cons_zero, List.set_cons_succ, i64_w, i32_w]
                      rfl
                    refine pure_ (i := 10) (N := some 86) (v := ?_) (a' := ?_) #[true, true, true, true, true, true, true, true, true, true, true, false] rfl rfl (by kernel_rfl) (fun _ _ _ h => h) (Or.inl ⟨by rfl, ?_⟩) ?_ ?_
                    rotate_left
                    · intro w'
                      go_simp
                      with_reducible rfl
                    rotate_left
                    · simp only [Act.put, List.setIfInBounds_toArray, List.set_cons_zero, List.set_cons_succ, i64_w, i32_w]
                      rfl
                    refine pure_ (i := 11) (N := some 10) (v := ?_) (a' := ?_) #[true, true, true, true, true, true, true, true, true, true, true, true] rfl rfl (by kernel_rfl) (fun _ _ _ h => h) (Or.inl ⟨by rfl, ?_⟩) ?_ ?_
                    rotate_left
                    · intro w'
                      go_simp
                      with_reducible rfl
                    rotate_left
                    · simp only [Act.put, List.setIfInBounds_toArray, List.set_cons_zero, List.set_cons_succ, i64_w, i32_w]
                      rfl
                    refine done_ (by kernel_rfl) ?_
                    have HB9 := Lib.hid (HB8.out.trans ((Below.refl _ w8).drew.mono HB8.out.size))
                    have HW9 := Lib.hid (show Below w8.heap.size w8 w8.drew from (Below.refl _ w8).drew)
                    generalize w8.drew = w9 at *
                    have HD9 := Lib.hid (HD8.out.below HW9.out)
                    have HBk9 := Lib.hid (HBk8.out.below HW9.out)
                    have HM9 := Lib.hid (HM8.out.below HW9.out)
                    have HBk59 := Lib.hid (HBk58.out.below HW9.out)
                    have HM59 := Lib.hid (HM58.out.below HW9.out)
                    obtain ⟨k0, k1, k2, k3⟩ := Box26.b4 HBk9.out
                    obtain ⟨j0, j1, j2, j3⟩ := Box26.b4 HBk59.out
                    dsimp only at k0 k1 k2 k3 j0 j1 j2 j3
                    go_wp2_with fail
                    refine (msame_calls w9 (me, mp, ml2, ml3, mz) (me, mp, ml2, ml3, mz) B2 cb2 B3 cb3 A2 c2' A3 c3' (MadeM.reads HM9.out) (MadeM.reads HM59.out) HR8.out).mono ?_
                    rintro e w10 ⟨b2, rfl, hbt2, hB10⟩
                    have HB9 := Lib.hid (HB9.out.trans (hB10.mono HB9.out.size))
                    have HD8 := Lib.hid (HD9.out.below hB10)
                    have Hbt2 := Lib.hid hbt2
                    clear hB10 hbt2
                    obtain rfl := Hbt2.out rfl
                    go_wp2_with fail
                    go_roundw
                    case rel => exact ⟨i + 1, L6, by omega, by go_num, HD8.out, HI6.out, HB9.out⟩
                    case measure => simp [intOf]; omega
              · as_aux_lemma =>
                  obtain ⟨me, mp, ml2, ml3, mz⟩ := m0
                  dsimp only at *
                  refine start_ (n := 12) (S := (fun w' => SC w' (ad.add (i * 6)) x ∧ B4 w' g8 (x.e, x.p, x.l2, x.l3, (0 : Int)) B2 cb2 B3 cb3)) (ds := []) #[false, false, false, false, false, false, false, false, false, false, false, false] (by kernel_rfl) rfl rfl ⟨(show SC w8.drew (ad.add (i * 6)) x from HS8.out), (show B4 w8.drew g8 _ B2 cb2 B3 cb3 from Box26.b4 HBk8.out)⟩ (fun hHeld => ?_)
                  refine pure_ (i := 0) (N := some 76) (v := ?_) (a' := ?_) #[true, false, false, false, false, false, false, false, false, false, false, false] rfl rfl (by kernel_rfl) (fun _ _ _ h => h) (Or.inl ⟨by rfl, ?_⟩) ?_ ?_
                  rotate_left
                  · intro w'
                    go_simp
                    with_reducible rfl
                  rotate_left
                  · simp only [Act.put, List.setIfInBounds_toArray, List.set_cons_zero, List.set_cons_succ, i64_w, i32_w]
                    rfl
                  refine pure_ (i := 1) (N := some 77) (v := ?_) (a' := ?_) #[true, true, false, false, false, false, false, false, false, false, false, false] rfl rfl (by kernel_rfl) (fun _ _ _ h => h) (Or.inl ⟨by rfl, ?_⟩) ?_ ?_
                  rotate_left
                  · intro w'
                    go_simp
                    with_reducible rfl
                  rotate_left
                  · simp only [Act.put, List.setIfInBounds_toArray, List.set_cons_zero, List.set_cons_succ, i64_w, i32_w]
                    rfl
                  refine pure_ (i := 2) (N := some 78) (v := ?_) (a' := ?_) #[true, true, true, false, false, false, false, false, false, false, false, false] rfl rfl (by kernel_rfl) (fun _ _ _ h => h) (Or.inl ⟨by rfl, ?_⟩) ?_ ?_
                  rotate_left
                  · intro w'
                    go_simp
                    with_reducible rfl
                  rotate_left
                  · simp only [Act.put, List.setIfInBounds_toArray, List.set_cons_zero, List.set_cons_succ, i64_w, i32_w]
                    rfl
                  refine take_ (i := 3) (N := some 79) (v := ?_) (a' := ?_) #[true, true, true, true, false, false, false, false, false, false, false, false] rfl rfl (by kernel_rfl) (fun _ _ _ h => h) (Or.inl ⟨by rfl, ?_⟩) hHeld ?_ ?_
                  rotate_left
                  · rintro w' ⟨⟨q0, q1, q2, q3, q4, q5⟩, r0, r1, r2, r3⟩
                    go_simp
                    with_reducible rfl
                  rotate_left
                  · simp only [Act.put, List.setIfInBounds_toArray, List.set_cons_zero, List.set_cons_succ, i64_w, i32_w]
                    rfl
                  refine pure_ (i := 4) (N := some 80) (v := ?_) (a' := ?_) #[true, true, true, true, true, false, false, false, false, false, false, false] rfl rfl (by kernel_rfl) (fun _ _ _ h => h) (Or.inl ⟨by rfl, ?_⟩) ?_ ?_
                  rotate_left
                  · intro w'
                    go_simp
                    with_reducible rfl
                  rotate_left
                  · simp only [Act.put, List.setIfInBounds_toArray, List.set_cons_zero, List.set_cons_succ, i64_w, i32_w]
                    rfl
                  refine pure_ (i := 5) (N := some 81) (v := ?_) (a' := ?_) #[true, true, true, true, true, true, false, false, false, false, false, false] rfl rfl (by kernel_rfl) (fun _ _ _ h => h) (Or.inl ⟨by rfl, ?_⟩) ?_ ?_
                  rotate_left
                  · intro w'
                    go_simp
                    with_reducible rfl
                  rotate_left
                  · simp only [Act.put, List.setIfInBounds_toArray, List.set_cons_zero, List.set_cons_succ, i64_w, i32_w]
                    rfl
                  refine pure_ (i := 6) (N := some 82) (v := ?_) (a' := ?_) #[true, true, true, true, true, true, true, false, false, false, false, false] rfl rfl (by kernel_rfl) (fun _ _ _ h => h) (Or.inl ⟨by rfl, ?_⟩) ?_ ?_
                  rotate_left
                  · intro w'
                    go_simp
                    with_reducible rfl
                  rotate_left
                  · simp only [Act.put, List.setIfInBounds_toArray, List.set_cons_zero, List.set_cons_succ, i64_w, i32_w]
                    rfl
                  refine pure_ (i := 7) (N := some 83) (v := ?_) (a' := ?_) #[true, true, true, true, true, true, true, true, false, false, false, false] rfl rfl (by kernel_rfl) (fun _ _ _ h => h) (Or.inl ⟨by rfl, ?_⟩) ?_ ?_
                  rotate_left
                  · intro w'
                    go_simp
                    with_reducible rfl
                  rotate_left
                  · simp only [Act.put, List.setIfInBounds_toArray, List.set_cons_zero, List.set_cons_succ, i64_w, i32_w]
                    rfl
                  refine take_ (i := 8) (N := some 84) (v := ?_) (a' := ?_) #[true, true, true, true, true, true, true, true, true, false, false, false] rfl rfl (by kernel_rfl) (fun _ _ _ h => h) (Or.inl ⟨by rfl, ?_⟩) hHeld ?_ ?_
                  rotate_left
                  · rintro w' ⟨⟨q0, q1, q2, q3, q4, q5⟩, r0, r1, r2, r3⟩
                    go_simp
                    with_reducible rfl
                  rotate_left
                  · simp only [Act.put, List.setIfInBounds_toArray, List.set_cons_zero, List.set_cons_succ, i64_w, i32_w]
                    rfl
                  refine one_ (i := 9) (N := some 85) #[true, true, true, true, true, true, true, true, true, true, false, false] rfl rfl (by kernel_rfl) (by decide) (fun K hK => ?_)
                  refine goes_ Tryz.func15 (by kernel_rfl) rfl #[.agg #[.int .u64 x.e, .int .u8 x.p, .slice B2 x.l2.length cb2, .slice B3 x.l3.length cb3], .agg #[.int .u64 x.e, .int .u8 x.p, .slice x.A2 x.l2.length x.c2, .slice x.A3 x.l3.length x.c3]] (by rfl) rfl rfl (by simp only [List.map_toArray, List.map_cons, List.map_nil]; rfl) ?_
                  refine (msame_calls w8.drew (x.e, x.p, x.l2, x.l3, (0 : Int)) (x.e, x.p, x.l2, x.l3, (0 : Int)) B2 cb2 B3 cb3 x.A2 x.c2 x.A3 x.c3 (MadeM.reads (HM8.out.below (Below.refl _ w8).drew)) (xreads HX.out (HB8.out.trans ((Below.refl _ w8).drew.mono HB8.out.size))) HR8.out).mono ?_
                  rintro e w9 ⟨b, rfl, hbt, hB9⟩
                  have hBx := (Below.refl _ w8).drew.trans hB9
                  have HB9 := Lib.hid (HB8.out.trans (hBx.mono HB8.out.size))
                  have HW9 := Lib.hid hBx
                  have Hbt := Lib.hid hbt
                  clear hB9 hBx hbt
                  refine ⟨_, rfl, ?_⟩
                  refine hK.out _ _ ⟨HS8.out.below HW9.out, Box26.b4 (HBk8.out.below HW9.out)⟩ (fun hHeld => ?_)
                  clear hK K
                  refine norm_ (a' := ?_) ?_ ?_
                  rotate_left
                  · show Act.put _ (some 85) _ = _
                    simp only [Act.put, List.setIfInBounds_toArray, List.set_cons_zero, List.set_cons_succ, i64_w, i32_w]
                    rfl
                  refine pure_ (i := 10) (N := some 86) (v := ?_) (a' := ?_) #[true, true, true, true, true, true, true, true, true, true, true, false] rfl rfl (by kernel_rfl) (fun _ _ _ h => h) (Or.inl ⟨by rfl, ?_⟩) ?_ ?_
                  rotate_left
                  · intro w'
                    go_simp
                    with_reducible rfl
                  rotate_left
                  · simp only [Act.put, List.setIfInBounds_toArray, List.set_cons_zero, List.set_cons_succ, i64_w, i32_w]
                    rfl
                  refine pure_ (i := 11) (N := some 10) (v := ?_) (a' := ?_) #[true, true, true, true, true, true, true, true, true, true, true, true] rfl rfl (by kernel_rfl) (fun _ _ _ h => h) (Or.inl ⟨by rfl, ?_⟩) ?_ ?_
                  rotate_left
                  · intro w'
                    go_simp
                    with_reducible rfl
                  rotate_left
                  · simp only [Act.put, List.setIfInBounds_toArray, List.set_cons_zero, List.set_cons_succ, i64_w, i32_w]
                    rfl
                  refine done_ (by kernel_rfl) ?_
                  have HD9 := Lib.hid (HD8.out.below HW9.out)
                  have HBk9 := Lib.hid (HBk8.out.below HW9.out)
                  have HM9 := Lib.hid (HM8.out.below HW9.out)
                  have HBk59 := Lib.hid (HBk58.out.below HW9.out)
                  have HM59 := Lib.hid (HM58.out.below HW9.out)
                  obtain ⟨k0, k1, k2, k3⟩ := Box26.b4 HBk9.out
                  obtain ⟨j0, j1, j2, j3⟩ := Box26.b4 HBk59.out
                  dsimp only at k0 k1 k2 k3 j0 j1 j2 j3
                  obtain rfl := Hbt.out rfl
                  by_cases h0 : mz = 0
                  · have d0 : ((0 : Int) == mz) = true := by simp [h0]
                    clear h0
                    go_wp2_with fail
                    refine (msame_calls w9 (x.e, x.p, x.l2, x.l3, (0 : Int)) (me, mp, ml2, ml3, mz) B2 cb2 B3 cb3 A2 c2' A3 c3' (MadeM.reads HM9.out) (MadeM.reads HM59.out) HR8.out).mono ?_
                    rintro e w10 ⟨b2, rfl, hbt2, hB10⟩
                    have HB9 := Lib.hid (HB9.out.trans (hB10.mono HB9.out.size))
                    have HD8 := Lib.hid (HD9.out.below hB10)
                    have Hbt2 := Lib.hid hbt2
                    clear hB10 hbt2
                    cases b2 with
                    | true =>
                      go_wp2_with fail
                      go_roundw
                      case rel => exact ⟨i + 1, L6, by omega, by go_num, HD8.out, HI6.out, HB9.out⟩
                      case measure => simp [intOf]; omega
                    | false =>
                      go_wp2_with fail
                      go_roundw
                      case rel => exact ⟨i + 1, L6, by omega, by go_num, HD8.out, HI6.out, HB9.out⟩
                      case measure => simp [intOf]; omega
                  · have d0 : ((0 : Int) == mz) = false := by simp; omega
                    clear h0
                    have HD8 := HD9
                    go_wp2_with fail
                    go_roundw
                    case rel => exact ⟨i + 1, L6, by omega, by go_num, HD8.out, HI6.out, HB9.out⟩
                    case measure => simp [intOf]; omega
              · as_aux_lemma =>
                  obtain ⟨me, mp, ml2, ml3, mz⟩ := m0
                  dsimp only at *
                  refine start_ (n := 12) (S := (fun w' => SC w' (ad.add (i * 6)) x ∧ B4 w' g8 (x.e, x.p, x.l2, x.l3, (0 : Int)) B2 cb2 B3 cb3)) (ds := []) #[false, false, false, false, false, false, false, false, false, false, false, false] (by kernel_rfl) rfl rfl ⟨(show SC w8.drew (ad.add (i * 6)) x from HS8.out), (show B4 w8.drew g8 _ B2 cb2 B3 cb3 from Box26.b4 HBk8.out)⟩ (fun hHeld => ?_)
                  refine pure_ (i := 0) (N := some 76) (v := ?_) (a' := ?_) #[true, false, false, false, false, false, false, false, false, false, false, false] rfl rfl (by kernel_rfl) (fun _ _ _ h => h) (Or.inl ⟨by rfl, ?_⟩) ?_ ?_
                  rotate_left
                  · intro w'
                    go_simp
                    with_reducible rfl
                  rotate_left
                  · simp only [Act.put, List.setIfInBounds_toArray, List.set_cons_zero, List.set_cons_succ, i64_w, i32_w]
                    rfl
                  refine pure_ (i := 1) (N := some 77) (v := ?_) (a' := ?_) #[true, true, false, false, false, false, false, false, false, false, false, false] rfl rfl (by kernel_rfl) (fun _ _ _ h => h) (Or.inl ⟨by rfl, ?_⟩) ?_ ?_
                  rotate_left
                  · intro w'
                    go_simp
                    with_reducible rfl
                  rotate_left
                  · simp only [Act.put, List.setIfInBounds_toArray, List.set_cons_zero, List.set_cons_succ, i64_w, i32_w]
                    rfl
                  refine pure_ (i := 2) (N := some 78) (v := ?_) (a' := ?_) #[true, true, true, false, false, false, false, false, false, false, false, false] rfl rfl (by kernel_rfl) (fun _ _ _ h => h) (Or.inl ⟨by rfl, ?_⟩) ?_ ?_
                  rotate_left
                  · intro w'
                    go_simp
                    with_reducible rfl
                  rotate_left
                  · simp only [Act.put, List.setIfInBounds_toArray, List.set_cons_zero, List.set_cons_succ, i64_w, i32_w]
                    rfl
                  refine take_ (i := 3) (N := some 79) (v := ?_) (a' := ?_) #[true, true, true, true, false, false, false, false, false, false, false, false] rfl rfl (by kernel_rfl) (fun _ _ _ h => h) (Or.inl ⟨by rfl, ?_⟩) hHeld ?_ ?_
                  rotate_left
                  · rintro w' ⟨⟨q0, q1, q2, q3, q4, q5⟩, r0, r1, r2, r3⟩
                    go_simp
                    with_reducible rfl
                  rotate_left
                  · simp only [Act.put, List.setIfInBounds_toArray, List.set_cons_zero, List.set_cons_succ, i64_w, i32_w]
                    rfl
                  refine pure_ (i := 4) (N := some 80) (v := ?_) (a' := ?_) #[true, true, true, true, true, false, false, false, false, false, false, false] rfl rfl (by kernel_rfl) (fun _ _ _ h => h) (Or.inl ⟨by rfl, ?_⟩) ?_ ?_
                  rotate_left
                  · intro w'
                    go_simp
                    with_reducible rfl
                  rotate_left
                  · simp only [Act.put, List.setIfInBounds_toArray, List.set_cons_zero, List.set_cons_succ, i64_w, i32_w]
                    rfl
                  refine pure_ (i := 5) (N := some 81) (v := ?_) (a' := ?_) #[true, true, true, true, true, true, false, false, false, false, false, false] rfl rfl (by kernel_rfl) (fun _ _ _ h => h) (Or.inl ⟨by rfl, ?_⟩) ?_ ?_
                  rotate_left
                  · intro w'
                    go_simp
                    with_reducible rfl
                  rotate_left
                  · simp only [Act.put, List.setIfInBounds_toArray, List.set_cons_zero, List.set_cons_succ, i64_w, i32_w]
                    rfl
                  refine pure_ (i := 6) (N := some 82) (v := ?_) (a' := ?_) #[true, true, true, true, true, true, true, false, false, false, false, false] rfl rfl (by kernel_rfl) (fun _ _ _ h => h) (Or.inl ⟨by rfl, ?_⟩) ?_ ?_
                  rotate_left
                  · intro w'
                    go_simp
                    with_reducible rfl
                  rotate_left
                  · simp only [Act.put, List.setIfInBounds_toArray, List.set_cons_zero, List.set_cons_succ, i64_w, i32_w]
                    rfl
                  refine pure_ (i := 7) (N := some 83) (v := ?_) (a' := ?_) #[true, true, true, true, true, true, true, true, false, false, false, false] rfl rfl (by kernel_rfl) (fun _ _ _ h => h) (Or.inl ⟨by rfl, ?_⟩) ?_ ?_
                  rotate_left
                  · intro w'
                    go_simp
                    with_reducible rfl
                  rotate_left
                  · simp only [Act.put, List.setIfInBounds_toArray, List.set_cons_zero, List.set_cons_succ, i64_w, i32_w]
                    rfl
                  refine take_ (i := 8) (N := some 84) (v := ?_) (a' := ?_) #[true, true, true, true, true, true, true, true, true, false, false, false] rfl rfl (by kernel_rfl) (fun _ _ _ h => h) (Or.inl ⟨by rfl, ?_⟩) hHeld ?_ ?_
                  rotate_left
                  · rintro w' ⟨⟨q0, q1, q2, q3, q4, q5⟩, r0, r1, r2, r3⟩
                    go_simp
                    with_reducible rfl
                  rotate_left
                  · simp only [Act.put, List.setIfInBounds_toArray, List.set_cons_zero, List.set_cons_succ, i64_w, i32_w]
                    rfl
                  refine one_ (i := 9) (N := some 85) #[true, true, true, true, true, true, true, true, true, true, false, false] rfl rfl (by kernel_rfl) (by decide) (fun K hK => ?_)
                  refine goes_ Tryz.func15 (by kernel_rfl) rfl #[.agg #[.int .u64 x.e, .int .u8 x.p, .slice B2 x.l2.length cb2, .slice B3 x.l3.length cb3], .agg #[.int .u64 x.e, .int .u8 x.p, .slice x.A2 x.l2.length x.c2, .slice x.A3 x.l3.length x.c3]] (by rfl) rfl rfl (by simp only [List.map_toArray, List.map_cons, List.map_nil]; rfl) ?_
                  refine (msame_calls w8.drew (x.e, x.p, x.l2, x.l3, (0 : Int)) (x.e, x.p, x.l2, x.l3, (0 : Int)) B2 cb2 B3 cb3 x.A2 x.c2 x.A3 x.c3 (MadeM.reads (HM8.out.below (Below.refl _ w8).drew)) (xreads HX.out (HB8.out.trans ((Below.refl _ w8).drew.mono HB8.out.size))) HR8.out).mono ?_
                  rintro e w9 ⟨b, rfl, hbt, hB9⟩
                  have hBx := (Below.refl _ w8).drew.trans hB9
                  have HB9 := Lib.hid (HB8.out.trans (hBx.mono HB8.out.size))
                  have HW9 := Lib.hid hBx
                  have Hbt := Lib.hid hbt
                  clear hB9 hBx hbt
                  refine ⟨_, rfl, ?_⟩
                  refine hK.out _ _ ⟨HS8.out.below HW9.out, Box26.b4 (HBk8.out.below HW9.out)⟩ (fun hHeld => ?_)
                  clear hK K
                  refine norm_ (a' := ?_) ?_ ?_
                  rotate_left
                  · show Act.put _ (some 85) _ = _
                    simp only [Act.put, List.setIfInBounds_toArray, List.set_cons_zero, List.set_cons_succ, i64_w, i32_w]
                    rfl
                  refine pure_ (i := 10) (N := some 86) (v := ?_) (a' := ?_) #[true, true, true, true, true, true, true, true, true, true, true, false] rfl rfl (by kernel_rfl) (fun _ _ _ h => h) (Or.inl ⟨by rfl, ?_⟩) ?_ ?_
                  rotate_left
                  · intro w'
                    go_simp
                    with_reducible rfl
                  rotate_left
                  · simp only [Act.put, List.setIfInBounds_toArray, List.set_cons_zero, List.set_cons_succ, i64_w, i32_w]
                    rfl
                  refine pure_ (i := 11) (N := some 10) (v := ?_) (a' := ?_) #[true, true, true, true, true, true, true, true, true, true, true, true] rfl rfl (by kernel_rfl) (fun _ _ _ h => h) (Or.inl ⟨by rfl, ?_⟩) ?_ ?_
                  rotate_left
                  · intro w'
                    go_simp
                    with_reducible rfl
                  rotate_left
                  · simp only [Act.put, List.setIfInBounds_toArray, List.set_cons_zero, List.set_cons_succ, i64_w, i32_w]
                    rfl
                  refine done_ (by kernel_rfl) ?_
                  have HD9 := Lib.hid (HD8.out.below HW9.out)
                  have HBk9 := Lib.hid (HBk8.out.below HW9.out)
                  have HM9 := Lib.hid (HM8.out.below HW9.out)
                  have HBk59 := Lib.hid (HBk58.out.below HW9.out)
                  have HM59 := Lib.hid (HM58.out.below HW9.out)
                  obtain ⟨k0, k1, k2, k3⟩ := Box26.b4 HBk9.out
                  obtain ⟨j0, j1, j2, j3⟩ := Box26.b4 HBk59.out
                  dsimp only at k0 k1 k2 k3 j0 j1 j2 j3
                  obtain rfl := Hbt.out rfl
                  by_cases h0 : mz = 0
                  · have d0 : ((0 : Int) == mz) = true := by simp [h0]
                    clear h0
                    go_wp2_with fail
                    refine (msame_calls w9 (x.e, x.p, x.l2, x.l3, (0 : Int)) (me, mp, ml2, ml3, mz) B2 cb2 B3 cb3 A2 c2' A3 c3' (MadeM.reads HM9.out) (MadeM.reads HM59.out) HR8.out).mono ?_
                    rintro e w10 ⟨b2, rfl, hbt2, hB10⟩
                    have HB9 := Lib.hid (HB9.out.trans (hB10.mono HB9.out.size))
                    have HD8 := Lib.hid (HD9.out.below hB10)
                    have Hbt2 := Lib.hid hbt2
                    clear hB10 hbt2
                    cases b2 with
                    | true =>
                      go_wp2_with fail
                      go_roundw
                      case rel => exact ⟨i + 1, L6, by omega, by go_num, HD8.out, HI6.out, HB9.out⟩
                      case measure => simp [intOf]; omega
                    | false =>
                      go_wp2_with fail
                      go_roundw
                      case rel => exact ⟨i + 1, L6, by omega, by go_num, HD8.out, HI6.out, HB9.out⟩
                      case measure => simp [intOf]; omega
                  · have d0 : ((0 : Int) == mz) = false := by simp; omega
                    clear h0
                    have HD8 := HD9
                    go_wp2_with fail
                    go_roundw
                    case rel => exact ⟨i + 1, L6, by omega, by go_num, HD8.out, HI6.out, HB9.out⟩
                    case measure => simp [intOf]; omega
      · have hltb : decide ((i : Int) < (l.length : Int)) = false := decide_eq_false (by omega)
        go_wp2_with fail
        refine (mawake_calls wr HLr.out).mono ?_
        rintro e w2 ⟨rfl, hB2⟩
        have HB2 := Lib.hid (HB.out.trans (hB2.mono HB.out.size))
        clear hB2
        go_wp2_with fail
        go_ret
        exact ⟨rfl, HB2.out⟩
end Go.Proofs.YtbffgpfkgmhmhaaGreatDoor.Dw
