import Derived.Test.YtbffgpfkgmhmhaaGreatDoorSMb
import Derived.Test.YtbffgpfkgmhmhaaGreatDoorSMd
-- out of the translation's print, by a program and by hand (wip/tools/hp.py)
namespace Go.Proofs.YtbffgpfkgmhmhaaGreatDoor.HM
open Go.RowKit Go.Proofs.YtbffgpfkgmhmhaaGreatDoorW.PrintWords Go.Proofs.YtbffgpfkgmhmhaaGreatDoorW.PrintLast Go.Proofs.YtbffgpfkgmhmhaaGreatDoorW.PrintMore
attribute [local go_sem] max2_int min2_int max_two min_two max_three min_three max_four min_four   -- for this text's walks alone
set_option linter.unusedVariables false
set_option linter.unusedSimpArgs false
/-! ### codec_get_uint8: function 90 -/
def codec_get_uint8.l0 : Nat → Int → ByteArray → Int → Int → ByteArray → Int → Option (Int × ByteArray × Int)
  | 0, _, _, _, _, _, _ => none
  | k + 1, x4, x5, x20, x21, x1000, x1001 => if x21 < x20 then (if 0 ≤ x21 then (if x21 < (x5.size : Int) then (if 0 ≤ (wrap64 (8 * x21)) then (codec_get_uint8.l0 k (Go.bits .or .u8 x4 ((shl .u64 (IntKind.u64.wrap (bt x5 x21)) (wrap64 (8 * x21))) % 256)) x5 x20 (wrap64 (x21 + 1)) x1000 x1001) else (none)) else (none)) else (none)) else (some (x4, x1000, x1001))
def codec_get_uint8.f (k : Nat) (s0_0 : ByteArray) (s0_1 : Int) (a1 : Int) : Option (Int × ByteArray × Int) := (codec_left_take.f s0_0 s0_1 (IntKind.u64.wrap (a1))).bind fun bt158 => (codec_get_uint8.l0 k 0 bt158.1 (bt158.1.size : Int) 0 bt158.2.2.1 bt158.2.2.2)
set_option maxHeartbeats 8000000 in
set_option maxRecDepth 100000 in
theorem codec_get_uint8.calls (k : Nat) (g : Nat) (s0_0 : ByteArray) (s0_1 : Int) (a1 : Int) (r1 : Int) (r2 : ByteArray) (r3 : Int) (w0 w : World) (hI : IsS164 w0 w g s0_0 s0_1) (hB : Below w0.heap.size w0 w) (h : codec_get_uint8.f k s0_0 s0_1 a1 = some (r1, r2, r3)) :
    Calls Tryz.prog 90 #[.pointer (some ⟨g, 0, none⟩), .int .i64 a1] w fun e w' => e = .returned (.int .u8 r1) ∧ IsS164 w0 w' g r2 r3 ∧ Below w0.heap.size w0 w' ∧ KeepBut w w' g none := by
  have HI0 := Aside0.mk hI
  have HK := Aside0.mk (KeepBut.refl w g none)
  have HL := Aside0.mk hB.size
  clear hI
  have HW0 := Aside0.mk hB.size
  have HB := Aside0.mk hB
  clear hB
  have H : ((codec_left_take.f s0_0 s0_1 (IntKind.u64.wrap (a1))).bind fun bt158 => (codec_get_uint8.l0 k 0 bt158.1 (bt158.1.size : Int) 0 bt158.2.2.1 bt158.2.2.2)) = some (r1, r2, r3) := h
  clear h
  replace H := Option.bind_eq_some_iff.mp H
  obtain ⟨⟨t158, t159, t160, t161⟩, A30, H⟩ := H
  replace H : (codec_get_uint8.l0 k 0 t158 (t158.size : Int) 0 t160 t161) = some (r1, r2, r3) := H
  have A3 := Aside0.mk A30
  clear A30
  have H' := Aside0.mk H
  clear H
  go_enter Tryz.func90, Tryz.ntmps90
  go_wp2_with (first | ((with_reducible refine gate_callee (f := 124) rfl ?_); refine goesL_ (some 16) rfl rfl Tryz.func124 (by kernel_rfl) rfl #[.pointer (some ⟨g, 0, none⟩), .int .u64 (IntKind.u64.wrap (a1))] rfl (by (try simp only [List.map_toArray, List.map_cons, List.map_nil]); first | done | rfl | (simp only [List.length_drop, List.length_take]; rfl)) ?_; (with_reducible refine (codec_left_take.calls g s0_0 s0_1 (IntKind.u64.wrap (a1)) t158 t159 t160 t161 w0 _ ?side1 ?side2 A3.out).mono ?_); (case side1 => repeat (first | (with_reducible first | exact HI0.out | apply IsS164.alloc | apply IsS164.drewN | apply IsS164.drew | apply IsS164.set_0 | apply IsS164.set_1) | exact HI0.out)); (case side2 => repeat (first | (with_reducible first | exact HB.out | apply below_alloc | apply pw_below_drewN | apply below_drew1 | refine below_set ?_ (IsS164.ge HI0.out)) | exact HB.out)); rintro e w4 ⟨rfl, hi, hb, hk⟩; refine ⟨_, rfl, ?_⟩; have n0_ := Aside0.mk (KeepBut.trans (by repeat (first | (with_reducible first | exact HK.out | apply KeepBut.set_ | apply keep_drewN | apply keep_drew | apply keep_alloc) | exact HK.out)) hk (.inl rfl)); have n1_ := Aside0.mk (hb); have n2_ := Aside0.mk (hi); clear HK; clear HB; clear HI0; have HK := n0_; have HB := n1_; have HI0 := n2_; clear n0_ n1_ n2_; (try clear hb); (try clear hb2); (try clear hk); (try clear hi)))
  go_loopg [4, 21] k (fun kq v4 v21 w' => ∃ (x4_1 : Int) (x21_1 : Int), v4 = .int .u8 x4_1 ∧ v21 = .int .i64 x21_1 ∧ Aside0 (codec_get_uint8.l0 kq x4_1 t158 (t158.size : Int) x21_1 t160 t161 = some (r1, r2, r3)) ∧ Aside0 (kq ≤ k) ∧ Aside0 (IsS164 w0 w' g t160 t161) ∧ Aside0 (KeepBut w w' g none) ∧ Aside0 (Below w0.heap.size w0 w'))
  case atStart => exact ⟨(0), (0), (by first | rfl | (simp; done) | (simp [*]; done)), (by first | rfl | (simp; done) | (simp [*]; done)), H', ⟨Nat.le_refl _⟩, ⟨by repeat (first | (with_reducible first | exact HI0.out | apply IsS164.alloc | apply IsS164.drewN | apply IsS164.drew | apply IsS164.set_0 | apply IsS164.set_1) | exact HI0.out)⟩, ⟨by repeat (first | (with_reducible first | exact HK.out | apply KeepBut.set_ | apply keep_drewN | apply keep_drew | apply keep_alloc) | exact HK.out)⟩, ⟨by repeat (first | (with_reducible first | exact HB.out | apply below_alloc | apply pw_below_drewN | apply below_drew1 | refine below_set ?_ (IsS164.ge HI0.out)) | exact HB.out)⟩⟩
  case round =>
    clear H'
    try clear c1
    try clear p2
    obtain ⟨x4_1, x21_1, rfl, rfl, HA, HK1, HI0, HK, HB⟩ := hrel
    cases gk with
    | zero => exact absurd HA.out (by simp [codec_get_uint8.l0])
    | succ k1 =>
      have H := HA.out
      clear HA
      simp only [codec_get_uint8.l0] at H
      by_cases c5 : x21_1 < (t158.size : Int)
      · rw [if_pos c5] at H
        have c5b0 : decide (x21_1 < (t158.size : Int)) = true := decide_eq_true c5
        clear c5
        by_cases c6 : 0 ≤ x21_1
        · rw [if_pos c6] at H
          have c6b0 : decide (0 ≤ x21_1) = true := decide_eq_true c6
          clear c6
          by_cases c7 : x21_1 < (t158.size : Int)
          · rw [if_pos c7] at H
            have c7b0 : decide (x21_1 < (t158.size : Int)) = true := decide_eq_true c7
            clear c7
            obtain ⟨ji9, hji9⟩ : ∃ j_ : Int, (wrap64 (8 * x21_1)) = j_ := ⟨_, rfl⟩
            replace H : (if 0 ≤ (ji9) then (codec_get_uint8.l0 k1 (Go.bits .or .u8 x4_1 ((shl .u64 (IntKind.u64.wrap (bt t158 x21_1)) (ji9)) % 256)) t158 (t158.size : Int) (wrap64 (x21_1 + 1)) t160 t161) else (none)) = some (r1, r2, r3) := by first | (rw [hji9] at H; exact H) | (simp only [hji9] at H ⊢; exact H)
            have hji9w : (IntKind.i64.wrap (8 * x21_1)) = ji9 := (i64_w _).trans hji9
            by_cases c10 : 0 ≤ (ji9)
            · rw [if_pos c10] at H
              have c10b0 := eq_true c10
              have c10b1 : decide (0 ≤ (ji9)) = true := decide_eq_true c10
              clear c10
              obtain ⟨ji11, hji11⟩ : ∃ j_ : Int, (shl .u64 (IntKind.u64.wrap (bt t158 x21_1)) (ji9)) = j_ := ⟨_, rfl⟩
              replace H : (codec_get_uint8.l0 k1 (Go.bits .or .u8 x4_1 ((ji11) % 256)) t158 (t158.size : Int) (wrap64 (x21_1 + 1)) t160 t161) = some (r1, r2, r3) := by first | (rw [hji11] at H; exact H) | (simp only [hji11] at H ⊢; exact H)
              have hji11_ : (IntKind.u64.wrap ((IntKind.u64.wrap (bt t158 x21_1)) * 2 ^ min (ji9).toNat 64)) = ji11 := hji11
              have hji11z : (ji9) ≤ 64 → (IntKind.u64.wrap ((IntKind.u64.wrap (bt t158 x21_1)) * 2 ^ (ji9).toNat)) = ji11 := shl_small hji11
              have H' := Aside0.mk H
              clear H
              have p8 : 0 ≤ (x21_1 : Int) := of_decide_eq_true (by first | (with_reducible assumption) | assumption)
              have q8 : x21_1 < (t158.size : Int) := of_decide_eq_true (by first | (with_reducible assumption) | assumption)
              have hx8 := bt_at t158 x21_1
              replace p8 := eq_true p8
              replace q8 := eq_true q8
              go_wp2
              go_roundg k1
              case measure => have := HK1.out; omega
              case rel => exact ⟨(Go.bits .or .u8 x4_1 ((ji11) % 256)), (wrap64 (x21_1 + 1)), (by first | rfl | (simp; done) | (simp only [← hji11] <;> (first | rfl | simp)) | (simp [*]; done)), (by first | rfl | (simp; done) | (simp [*]; done)), H', ⟨by have := HK1.out; omega⟩, ⟨by repeat (first | (with_reducible first | exact HI0.out | apply IsS164.alloc | apply IsS164.drewN | apply IsS164.drew | apply IsS164.set_0 | apply IsS164.set_1) | exact HI0.out)⟩, ⟨by repeat (first | (with_reducible first | exact HK.out | apply KeepBut.set_ | apply keep_drewN | apply keep_drew | apply keep_alloc) | exact HK.out)⟩, ⟨by repeat (first | (with_reducible first | exact HB.out | apply below_alloc | apply pw_below_drewN | apply below_drew1 | refine below_set ?_ (IsS164.ge HI0.out)) | exact HB.out)⟩⟩
            · rw [if_neg c10] at H
              exact absurd H (by simp)
          · rw [if_neg c7] at H
            exact absurd H (by simp)
        · rw [if_neg c6] at H
          exact absurd H (by simp)
      · rw [if_neg c5] at H
        have c5b0 : decide (x21_1 < (t158.size : Int)) = false := decide_eq_false c5
        clear c5
        simp only [Option.some.injEq, Prod.mk.injEq] at H
        obtain ⟨rfl, rfl, rfl⟩ := H
        go_wp2
        go_ret
        exact ⟨by first | rfl | (simp [errW_none, errW_some] <;> rfl) | (simp [*, errW_none, errW_some] <;> rfl), by repeat (first | (with_reducible first | exact HI0.out | apply IsS164.alloc | apply IsS164.drewN | apply IsS164.drew | apply IsS164.set_0 | apply IsS164.set_1) | exact HI0.out), by repeat (first | (with_reducible first | exact HB.out | apply below_alloc | apply pw_below_drewN | apply below_drew1 | refine below_set ?_ (IsS164.ge HI0.out)) | exact HB.out), by repeat (first | (with_reducible first | exact HK.out | apply KeepBut.set_ | apply keep_drewN | apply keep_drew | apply keep_alloc) | exact HK.out)⟩
/-! ### codec_Reader_U8: function 43 -/
def codec_Reader_U8.f (k : Nat) (s0_0 : ByteArray) (s0_1 : Int) : Option (Int × ByteArray × Int) := (codec_get_uint8.f k s0_0 s0_1 1).bind fun bt162 => (some (bt162.1, bt162.2.1, bt162.2.2))
set_option maxHeartbeats 8000000 in
set_option maxRecDepth 100000 in
theorem codec_Reader_U8.calls (k : Nat) (g : Nat) (s0_0 : ByteArray) (s0_1 : Int) (r1 : Int) (r2 : ByteArray) (r3 : Int) (w0 w : World) (hI : IsS164 w0 w g s0_0 s0_1) (hB : Below w0.heap.size w0 w) (h : codec_Reader_U8.f k s0_0 s0_1 = some (r1, r2, r3)) :
    Calls Tryz.prog 43 #[.pointer (some ⟨g, 0, none⟩)] w fun e w' => e = .returned (.int .u8 r1) ∧ IsS164 w0 w' g r2 r3 ∧ Below w0.heap.size w0 w' ∧ KeepBut w w' g none := by
  have HI0 := Aside0.mk hI
  have HK := Aside0.mk (KeepBut.refl w g none)
  have HL := Aside0.mk hB.size
  clear hI
  have HW0 := Aside0.mk hB.size
  have HB := Aside0.mk hB
  clear hB
  have H : ((codec_get_uint8.f k s0_0 s0_1 1).bind fun bt162 => (some (bt162.1, bt162.2.1, bt162.2.2))) = some (r1, r2, r3) := h
  clear h
  replace H := Option.bind_eq_some_iff.mp H
  obtain ⟨⟨t162, t163, t164⟩, A20, H⟩ := H
  replace H : (some (t162, t163, t164)) = some (r1, r2, r3) := H
  have A2 := Aside0.mk A20
  clear A20
  simp only [Option.some.injEq, Prod.mk.injEq] at H
  obtain ⟨rfl, rfl, rfl⟩ := H
  go_enter Tryz.func43, Tryz.ntmps43
  go_wp2_with (first | ((with_reducible refine gate_callee (f := 90) rfl ?_); refine goesL_ (some 4) rfl rfl Tryz.func90 (by kernel_rfl) rfl #[.pointer (some ⟨g, 0, none⟩), .int .i64 1] rfl (by (try simp only [List.map_toArray, List.map_cons, List.map_nil]); first | done | rfl | (simp only [List.length_drop, List.length_take]; rfl)) ?_; (with_reducible refine (codec_get_uint8.calls k g s0_0 s0_1 1 t162 t163 t164 w0 _ ?side1 ?side2 A2.out).mono ?_); (case side1 => repeat (first | (with_reducible first | exact HI0.out | apply IsS164.alloc | apply IsS164.drewN | apply IsS164.drew | apply IsS164.set_0 | apply IsS164.set_1) | exact HI0.out)); (case side2 => repeat (first | (with_reducible first | exact HB.out | apply below_alloc | apply pw_below_drewN | apply below_drew1 | refine below_set ?_ (IsS164.ge HI0.out)) | exact HB.out)); rintro e w3 ⟨rfl, hi, hb, hk⟩; refine ⟨_, rfl, ?_⟩; have n0_ := Aside0.mk (KeepBut.trans (by repeat (first | (with_reducible first | exact HK.out | apply KeepBut.set_ | apply keep_drewN | apply keep_drew | apply keep_alloc) | exact HK.out)) hk (.inl rfl)); have n1_ := Aside0.mk (hb); have n2_ := Aside0.mk (hi); clear HK; clear HB; clear HI0; have HK := n0_; have HB := n1_; have HI0 := n2_; clear n0_ n1_ n2_; (try clear hb); (try clear hb2); (try clear hk); (try clear hi)))
  go_ret
  exact ⟨by first | rfl | (simp [errW_none, errW_some] <;> rfl) | (simp [*, errW_none, errW_some] <;> rfl), by repeat (first | (with_reducible first | exact HI0.out | apply IsS164.alloc | apply IsS164.drewN | apply IsS164.drew | apply IsS164.set_0 | apply IsS164.set_1) | exact HI0.out), by repeat (first | (with_reducible first | exact HB.out | apply below_alloc | apply pw_below_drewN | apply below_drew1 | refine below_set ?_ (IsS164.ge HI0.out)) | exact HB.out), by repeat (first | (with_reducible first | exact HK.out | apply KeepBut.set_ | apply keep_drewN | apply keep_drew | apply keep_alloc) | exact HK.out)⟩
/-! ### codec_Reader_Err: function 44 -/
def codec_Reader_Err.f (s0_0 : ByteArray) (s0_1 : Int) : Option (Int × ByteArray × Int) := some (s0_1, s0_0, s0_1)
set_option maxHeartbeats 8000000 in
set_option maxRecDepth 100000 in
theorem codec_Reader_Err.calls (g : Nat) (s0_0 : ByteArray) (s0_1 : Int) (r1 : Int) (r2 : ByteArray) (r3 : Int) (w0 w : World) (hI : IsS164 w0 w g s0_0 s0_1) (hB : Below w0.heap.size w0 w) (h : codec_Reader_Err.f s0_0 s0_1 = some (r1, r2, r3)) :
    Calls Tryz.prog 44 #[.pointer (some ⟨g, 0, none⟩)] w fun e w' => e = .returned (.int .i64 r1) ∧ IsS164 w0 w' g r2 r3 ∧ Below w0.heap.size w0 w' ∧ KeepBut w w' g none := by
  have HI0 := Aside0.mk hI
  have HK := Aside0.mk (KeepBut.refl w g none)
  have HL := Aside0.mk hB.size
  clear hI
  have HW0 := Aside0.mk hB.size
  have HB := Aside0.mk hB
  clear hB
  have H : (some (s0_1, s0_0, s0_1)) = some (r1, r2, r3) := h
  clear h
  simp only [Option.some.injEq, Prod.mk.injEq] at H
  obtain ⟨rfl, rfl, rfl⟩ := H
  obtain ⟨HGz2, hgz2⟩ := HI0.out
  have hcz2_0 := cellS164_0 HGz2
  have hcz2_1 := cellS164_1 HGz2
  have hfz2_0 := blk_frozen HGz2 0
  have hfz2_1 := blk_frozen HGz2 1
  clear HGz2 hgz2
  go_enter Tryz.func44, Tryz.ntmps44
  go_wp2
  go_ret
  exact ⟨by first | rfl | (simp [errW_none, errW_some] <;> rfl) | (simp [*, errW_none, errW_some] <;> rfl), by repeat (first | (with_reducible first | exact HI0.out | apply IsS164.alloc | apply IsS164.drewN | apply IsS164.drew | apply IsS164.set_0 | apply IsS164.set_1) | exact HI0.out), by repeat (first | (with_reducible first | exact HB.out | apply below_alloc | apply pw_below_drewN | apply below_drew1 | refine below_set ?_ (IsS164.ge HI0.out)) | exact HB.out), by repeat (first | (with_reducible first | exact HK.out | apply KeepBut.set_ | apply keep_drewN | apply keep_drew | apply keep_alloc) | exact HK.out)⟩
/-! ### manifest_Take: function 12 -/
mutual
def manifest_Take.l0 : Nat → ByteArray → Int → Int → Int → ByteArray → Int → Int → Int → List (S29) → Option (Int × Int × (List (S29)) × List Int × Int)
  | 0, _, _, _, _, _, _, _, _, _ => none
  | k + 1, x0, x5, x29, x30, x172000, x172001, x179000, x179001, x179002 => if x30 < x29 then ((codec_Reader_U64.f k x172000 x172001).bind fun bt182 => ((codec_Reader_U64.f k bt182.2.1 bt182.2.2).bind fun bt186 => (if x179002.length < 8796093022208 then (manifest_Take.l0 k x0 x5 x29 ((x30 + 1) % 256) bt186.2.1 bt186.2.2 x179000 x179001 (x179002 ++ [(⟨bt182.1, bt186.1⟩ : S29)])) else (none)))) else ((codec_Reader_U8.f k x172000 x172001).bind fun bt192 => (manifest_Take.l1 k x0 x5 (mn bt192.1 3) 0 bt192.2.1 bt192.2.2 x179000 x179001 x179002 ([] : List Int)))
def manifest_Take.l1 : Nat → ByteArray → Int → Int → Int → ByteArray → Int → Int → Int → List (S29) → List Int → Option (Int × Int × (List (S29)) × List Int × Int)
  | 0, _, _, _, _, _, _, _, _, _, _ => none
  | k + 1, x0, x5, x47, x48, x172000, x172001, x179000, x179001, x179002, x179003 => if x48 < x47 then ((codec_Reader_U64.f k x172000 x172001).bind fun bt195 => (if x179003.length < 17592186044416 then (manifest_Take.l1 k x0 x5 x47 ((x48 + 1) % 256) bt195.2.1 bt195.2.2 x179000 x179001 x179002 (x179003 ++ [bt195.1])) else (none))) else (if x5 = (x0.size : Int) then ((codec_Reader_Err.f x172000 x172001).bind fun bt201 => (if bt201.1 = 0 then ((codec_Reader_Rest.f bt201.2.1 bt201.2.2).bind fun bt204 => (if bt204.1.toList = ([] : List UInt8) then ((manifest_Check.f k x179000 x179001 x179002 x179003).bind fun t207 => (if t207 = 0 then (some (x179000, x179001, x179002, x179003, 0)) else (some (0, 0, ([] : List (S29)), ([] : List Int), 4)))) else (some (0, 0, ([] : List (S29)), ([] : List Int), 4)))) else (some (0, 0, ([] : List (S29)), ([] : List Int), 4)))) else (some (0, 0, ([] : List (S29)), ([] : List Int), 4)))
end
def manifest_Take.f (k : Nat) (a0 : ByteArray) : Option (Int × Int × (List (S29)) × List Int × Int) := (frame_Next.f k a0).bind fun bt166 => (if bt166.2.2 = 0 then ((codec_New.f bt166.1).bind fun bt169 => ((codec_Reader_U64.f k bt169.1 bt169.2).bind fun bt172 => ((codec_Reader_U8.f k bt172.2.1 bt172.2.2).bind fun bt175 => ((codec_Reader_U8.f k bt175.2.1 bt175.2.2).bind fun bt179 => (manifest_Take.l0 k a0 bt166.2.1 (mn bt179.1 13) 0 bt179.2.1 bt179.2.2 bt172.1 bt175.1 ([] : List (S29))))))) else (some (0, 0, ([] : List (S29)), ([] : List Int), bt166.2.2)))
def manifest_Take.T14 : Bool × List (List Nat × List Nat) := (true, [([], []), ([0], [0]), ([], []), ([2], [2]), ([3], [3]), ([1, 4, 3], [1, 4]), ([0, 1, 2, 3, 4, 5], []), ([6, 5, 5, 0, 1, 2, 3, 4, 5], [5, 6])])
def manifest_Take.B14 : List Nat := [0, 1, 0, 4, 12, 31, 63, 127]
theorem manifest_Take.tab14 : rtab .any (opsOf Tryz.f12 14) = manifest_Take.T14 := by kernel_rfl
theorem manifest_Take.bits14 : waitsOk manifest_Take.T14.2 manifest_Take.B14 = true := by kernel_rfl
set_option maxHeartbeats 8000000 in
set_option maxRecDepth 100000 in
theorem manifest_Take.calls (k : Nat) (a0 : ByteArray) (r1 : Int) (r2 : Int) (r3 : List (S29)) (r4 : List Int) (r5 : Int) (w : World) (h : manifest_Take.f k a0 = some (r1, r2, r3, r4, r5)) (HL : Aside0 (Go.Proofs.YtbffgpfkgmhmhaaGreatDoor.Crc.Laid w)) :
    Calls Tryz.prog 12 #[.string a0] w fun e w' => ∃ v2_ v3_ : Value, e = .returned (.tuple #[.agg #[.int .u64 r1, .int .u8 r2, v2_, v3_], .int .i64 r5]) ∧ Kd.R k29 29 w' w.heap.size (fun _ => True) v2_ r3 ∧ Kd.R (Kd.int .u64) 22 w' w.heap.size (fun _ => True) v3_ r4 ∧ Below w.heap.size w w' := by
  have hu26 := Tryz.underlying26
  have hu29 := Tryz.underlying29
  have HB := Aside0.mk (Below.refl w.heap.size w)
  have H : ((frame_Next.f k a0).bind fun bt166 => (if bt166.2.2 = 0 then ((codec_New.f bt166.1).bind fun bt169 => ((codec_Reader_U64.f k bt169.1 bt169.2).bind fun bt172 => ((codec_Reader_U8.f k bt172.2.1 bt172.2.2).bind fun bt175 => ((codec_Reader_U8.f k bt175.2.1 bt175.2.2).bind fun bt179 => (manifest_Take.l0 k a0 bt166.2.1 (mn bt179.1 13) 0 bt179.2.1 bt179.2.2 bt172.1 bt175.1 ([] : List (S29))))))) else (some (0, 0, ([] : List (S29)), ([] : List Int), bt166.2.2)))) = some (r1, r2, r3, r4, r5) := h
  clear h
  replace H := Option.bind_eq_some_iff.mp H
  obtain ⟨⟨t166, t167, t168⟩, A20, H⟩ := H
  replace H : (if t168 = 0 then ((codec_New.f t166).bind fun bt169 => ((codec_Reader_U64.f k bt169.1 bt169.2).bind fun bt172 => ((codec_Reader_U8.f k bt172.2.1 bt172.2.2).bind fun bt175 => ((codec_Reader_U8.f k bt175.2.1 bt175.2.2).bind fun bt179 => (manifest_Take.l0 k a0 t167 (mn bt179.1 13) 0 bt179.2.1 bt179.2.2 bt172.1 bt175.1 ([] : List (S29))))))) else (some (0, 0, ([] : List (S29)), ([] : List Int), t168))) = some (r1, r2, r3, r4, r5) := H
  have A2 := Aside0.mk A20
  clear A20
  by_cases c3 : t168 = 0
  · rw [if_pos c3] at H
    have c3b0 : (t168 == 0) = true := beq_iff_eq.mpr c3
    have c3b1 : (t168 != 0) = false := bne_eq_false_iff_eq.mpr c3
    clear c3
    replace H := Option.bind_eq_some_iff.mp H
    obtain ⟨⟨t169, t170⟩, A40, H⟩ := H
    replace H : ((codec_Reader_U64.f k t169 t170).bind fun bt172 => ((codec_Reader_U8.f k bt172.2.1 bt172.2.2).bind fun bt175 => ((codec_Reader_U8.f k bt175.2.1 bt175.2.2).bind fun bt179 => (manifest_Take.l0 k a0 t167 (mn bt179.1 13) 0 bt179.2.1 bt179.2.2 bt172.1 bt175.1 ([] : List (S29)))))) = some (r1, r2, r3, r4, r5) := H
    have A4 := Aside0.mk A40
    clear A40
    replace H := Option.bind_eq_some_iff.mp H
    obtain ⟨⟨t172, t173, t174⟩, A50, H⟩ := H
    replace H : ((codec_Reader_U8.f k t173 t174).bind fun bt175 => ((codec_Reader_U8.f k bt175.2.1 bt175.2.2).bind fun bt179 => (manifest_Take.l0 k a0 t167 (mn bt179.1 13) 0 bt179.2.1 bt179.2.2 t172 bt175.1 ([] : List (S29))))) = some (r1, r2, r3, r4, r5) := H
    have A5 := Aside0.mk A50
    clear A50
    replace H := Option.bind_eq_some_iff.mp H
    obtain ⟨⟨t175, t176, t177⟩, A60, H⟩ := H
    replace H : ((codec_Reader_U8.f k t176 t177).bind fun bt179 => (manifest_Take.l0 k a0 t167 (mn bt179.1 13) 0 bt179.2.1 bt179.2.2 t172 t175 ([] : List (S29)))) = some (r1, r2, r3, r4, r5) := H
    have A6 := Aside0.mk A60
    clear A60
    replace H := Option.bind_eq_some_iff.mp H
    obtain ⟨⟨t179, t180, t181⟩, A70, H⟩ := H
    replace H : (manifest_Take.l0 k a0 t167 (mn t179 13) 0 t180 t181 t172 t175 ([] : List (S29))) = some (r1, r2, r3, r4, r5) := H
    have A7 := Aside0.mk A70
    clear A70
    obtain ⟨ji8, hji8⟩ : ∃ j_ : Int, (mn t179 13) = j_ := ⟨_, rfl⟩
    replace H : (manifest_Take.l0 k a0 t167 ji8 0 t180 t181 t172 t175 ([] : List (S29))) = some (r1, r2, r3, r4, r5) := by first | (rw [hji8] at H; exact H) | (simp only [hji8] at H ⊢; exact H)
    (try rw [hji8] at A2)
    (try rw [hji8] at A4)
    (try rw [hji8] at A5)
    (try rw [hji8] at A6)
    (try rw [hji8] at A7)
    (try (have hji8h : ji8 ≤ 13 := by (rw [← hji8]; unfold mn; (repeat' split) <;> omega)))
    (try (have hji8g : ji8 ≤ 64 := by omega))
    have hji8_ : (if 13 < t179 then 13 else t179) = ji8 := hji8
    have H' := Aside0.mk H
    clear H
    go_enter Tryz.func12, Tryz.ntmps12
    go_wp2_with (first | ((with_reducible refine gate_dst (N := 2) rfl ?_); refine box_event ?hg (N := 2) ?hd (cs := #[.int .u64 0, .int .u8 0, .slice none 0 0, .slice none 0 0]) (t := 26) ?hr ?_; (case hd => rfl); (case hg => rfl); (case hr => first | (go_simp; done) | (go_simp; rfl)); intro gb165 hg w9 hbox hb; have n0_ := Aside0.mk (below_step (by repeat (first | (with_reducible first | exact HB.out | apply below_alloc | apply pw_below_drewN | apply below_drew1) | exact HB.out)) hb); have n1_ := Aside0.mk (hbox); have n2_ := Aside0.mk ((by rw [hg]; exact (below_size (by repeat (first | (with_reducible first | exact HB.out | apply below_alloc | apply pw_below_drewN | apply below_drew1) | exact HB.out))) : w.heap.size ≤ gb165)); have n3_ := Aside0.mk ((by rw [hg]; exact (below_size (by repeat (first | (with_reducible first | exact HB.out | apply below_alloc | apply pw_below_drewN | apply below_drew1) | exact HB.out))) : w.heap.size ≤ gb165)); clear HB; have HB := n0_; have BK165 := n1_; have GW165 := n2_; have GE165 := n3_; clear n0_ n1_ n2_ n3_; clear hb hbox hg) | ((with_reducible refine gate_callee (f := 40) rfl ?_); refine goesL_ (some 12) rfl rfl Tryz.func40 (by kernel_rfl) rfl #[.string a0] rfl (by (try simp only [List.map_toArray, List.map_cons, List.map_nil]); first | done | rfl | (simp only [List.length_drop, List.length_take]; rfl)) ?_; (with_reducible refine (frame_Next.calls k a0 t166 t167 t168 _ A2.out ⟨by first | exact HL.out | ((repeat (first | exact HL.out | apply Go.Proofs.YtbffgpfkgmhmhaaGreatDoor.Crc.laid_drewN | apply Go.Proofs.YtbffgpfkgmhmhaaGreatDoor.Crc.laid_drew)); done) | exact Go.Proofs.YtbffgpfkgmhmhaaGreatDoor.Crc.laid_below HL.out (by repeat (first | (with_reducible first | exact HB.out | apply below_alloc | apply pw_below_drewN | apply below_drew1 | refine below_set ?_ GE165.out) | exact HB.out))⟩).mono ?_); rintro e w10 ⟨rfl, hb⟩; refine ⟨_, rfl, ?_⟩; have n0_ := Aside0.mk (blk_below (g := gb165) (o := .cells #[.int .u64 0, .int .u8 0, .slice none 0 0, .slice none 0 0] 26 (0, 0)) (by (with_reducible repeat (first | refine blk_drewN ?_ _ | refine blk_drew ?_ | refine blk_alloc ?_ _)); exact BK165.out) hb); have n1_ := Aside0.mk (below_step (by repeat (first | (with_reducible first | exact HB.out | apply below_alloc | apply pw_below_drewN | apply below_drew1 | refine below_set ?_ GE165.out) | exact HB.out)) hb); clear BK165; clear HB; have BK165 := n0_; have HB := n1_; clear n0_ n1_; (try clear hb); (try clear hb2); (try clear hk); (try clear hi)) | ((with_reducible refine gate_callee (f := 41) rfl ?_); refine goesL_ (some 21) rfl rfl Tryz.func41 (by kernel_rfl) rfl #[.string t166] rfl (by (try simp only [List.map_toArray, List.map_cons, List.map_nil]); first | done | rfl | (simp only [List.length_drop, List.length_take]; rfl)) ?_; (with_reducible refine (codec_New.calls t166 t169 t170 w _ ?side1 A4.out).mono ?_); (case side1 => repeat (first | (with_reducible first | exact HB.out | apply below_alloc | apply pw_below_drewN | apply below_drew1 | refine below_set ?_ GE165.out) | exact HB.out)); rintro e w11 ⟨g171, rfl, hi, hb, hb2⟩; refine ⟨_, rfl, ?_⟩; have n0_ := Aside0.mk (blk_below (g := gb165) (o := .cells #[.int .u64 0, .int .u8 0, .slice none 0 0, .slice none 0 0] 26 (0, 0)) (by (with_reducible repeat (first | refine blk_drewN ?_ _ | refine blk_drew ?_ | refine blk_alloc ?_ _)); exact BK165.out) hb2); have n1_ := Aside0.mk (hb); have n2_ := Aside0.mk (hi); have n3_ := Aside0.mk (IsS164.ne_blk hi (blk_below (g := gb165) (o := .cells #[.int .u64 0, .int .u8 0, .slice none 0 0, .slice none 0 0] 26 (0, 0)) (by (with_reducible repeat (first | refine blk_drewN ?_ _ | refine blk_drew ?_ | refine blk_alloc ?_ _)); exact BK165.out) hb2) (by decide)); have n4_ := Aside0.mk (Ne.symm (IsS164.ne_blk hi (blk_below (g := gb165) (o := .cells #[.int .u64 0, .int .u8 0, .slice none 0 0, .slice none 0 0] 26 (0, 0)) (by (with_reducible repeat (first | refine blk_drewN ?_ _ | refine blk_drew ?_ | refine blk_alloc ?_ _)); exact BK165.out) hb2) (by decide))); clear BK165; clear HB; have BK165 := n0_; have HB := n1_; have HI171 := n2_; have NB171_165 := n3_; have NB165_171 := n4_; clear n0_ n1_ n2_ n3_ n4_; (try clear hb); (try clear hb2); (try clear hk); (try clear hi)) | ((with_reducible refine gate_callee (f := 42) rfl ?_); refine goesL_ (some 23) rfl rfl Tryz.func42 (by kernel_rfl) rfl #[.pointer (some ⟨g171, 0, none⟩)] rfl (by (try simp only [List.map_toArray, List.map_cons, List.map_nil]); first | done | rfl | (simp only [List.length_drop, List.length_take]; rfl)) ?_; (with_reducible refine (codec_Reader_U64.calls k g171 t169 t170 t172 t173 t174 w _ ?side1 ?side2 A5.out).mono ?_); (case side1 => repeat (first | (with_reducible first | exact HI171.out | apply IsS164.alloc | apply IsS164.drewN | apply IsS164.drew | apply IsS164.set_0 | apply IsS164.set_1 | refine IsS164.far ?_ NB171_165.out _) | exact HI171.out)); (case side2 => repeat (first | (with_reducible first | exact HB.out | apply below_alloc | apply pw_below_drewN | apply below_drew1 | refine below_set ?_ (IsS164.ge HI171.out) | refine below_set ?_ GE165.out) | exact HB.out)); rintro e w12 ⟨rfl, hi, hb, hk⟩; refine ⟨_, rfl, ?_⟩; have n0_ := Aside0.mk (KeepBut.blk hk (g' := gb165) (o := .cells #[.int .u64 0, .int .u8 0, .slice none 0 0, .slice none 0 0] 26 (0, 0)) (by (with_reducible repeat (first | refine blk_drewN ?_ _ | refine blk_drew ?_ | refine blk_alloc ?_ _)); exact BK165.out) NB165_171.out (by simp)); have n1_ := Aside0.mk (hb); have n2_ := Aside0.mk (hi); clear BK165; clear HB; clear HI171; have BK165 := n0_; have HB := n1_; have HI171 := n2_; clear n0_ n1_ n2_; (try clear hb); (try clear hb2); (try clear hk); (try clear hi)) | ((with_reducible refine gate_callee (f := 43) rfl ?_); refine goesL_ (some 25) rfl rfl Tryz.func43 (by kernel_rfl) rfl #[.pointer (some ⟨g171, 0, none⟩)] rfl (by (try simp only [List.map_toArray, List.map_cons, List.map_nil]); first | done | rfl | (simp only [List.length_drop, List.length_take]; rfl)) ?_; (with_reducible refine (codec_Reader_U8.calls k g171 t173 t174 t175 t176 t177 w _ ?side1 ?side2 A6.out).mono ?_); (case side1 => repeat (first | (with_reducible first | exact HI171.out | apply IsS164.alloc | apply IsS164.drewN | apply IsS164.drew | apply IsS164.set_0 | apply IsS164.set_1 | refine IsS164.far ?_ NB171_165.out _) | exact HI171.out)); (case side2 => repeat (first | (with_reducible first | exact HB.out | apply below_alloc | apply pw_below_drewN | apply below_drew1 | refine below_set ?_ (IsS164.ge HI171.out) | refine below_set ?_ GE165.out) | exact HB.out)); rintro e w13 ⟨rfl, hi, hb, hk⟩; refine ⟨_, rfl, ?_⟩; have n0_ := Aside0.mk (KeepBut.blk hk (g' := gb165) (o := .cells #[.int .u64 0, .int .u8 0, .slice none 0 0, .slice none 0 0] 26 (0, 0)) (by (with_reducible repeat (first | refine blk_drewN ?_ _ | refine blk_drew ?_ | refine blk_alloc ?_ _)); exact BK165.out) NB165_171.out (by simp)); have n1_ := Aside0.mk (hb); have n2_ := Aside0.mk (hi); clear BK165; clear HB; clear HI171; have BK165 := n0_; have HB := n1_; have HI171 := n2_; clear n0_ n1_ n2_; (try clear hb); (try clear hb2); (try clear hk); (try clear hi)) | ((with_reducible refine gate_dst (N := 8) rfl ?_); refine box_event ?hg (N := 8) ?hd (cs := #[.int .u64 0, .int .u8 0, .slice none 0 0, .slice none 0 0]) (t := 26) ?hr ?_; (case hd => rfl); (case hg => rfl); (case hr => first | (go_simp; done) | (go_simp; rfl)); intro gb178 hg w14 hbox hb; have n0_ := Aside0.mk (blk_below (g := gb165) (o := .cells #[.int .u64 0, .int .u8 0, .slice none 0 0, .slice none 0 0] 26 (0, 0)) (by (with_reducible repeat (first | refine blk_drewN ?_ _ | refine blk_drew ?_ | refine blk_alloc ?_ _)); exact BK165.out) hb); have n1_ := Aside0.mk (IsS164.below (by repeat (first | (with_reducible first | exact HI171.out | apply IsS164.alloc | apply IsS164.drewN | apply IsS164.drew | apply IsS164.set_0 | apply IsS164.set_1 | refine IsS164.far ?_ NB171_165.out _) | exact HI171.out)) hb); have n2_ := Aside0.mk (below_step (by repeat (first | (with_reducible first | exact HB.out | apply below_alloc | apply pw_below_drewN | apply below_drew1 | refine below_set ?_ (IsS164.ge HI171.out) | refine below_set ?_ GE165.out) | exact HB.out)) hb); have n3_ := Aside0.mk (hbox); have n4_ := Aside0.mk ((by rw [hg]; exact (below_size (by repeat (first | (with_reducible first | exact HB.out | apply below_alloc | apply pw_below_drewN | apply below_drew1 | refine below_set ?_ (IsS164.ge HI171.out) | refine below_set ?_ GE165.out) | exact HB.out))) : w.heap.size ≤ gb178)); have n5_ := Aside0.mk ((by rw [hg]; exact (below_size (by repeat (first | (with_reducible first | exact HB.out | apply below_alloc | apply pw_below_drewN | apply below_drew1 | refine below_set ?_ (IsS164.ge HI171.out) | refine below_set ?_ GE165.out) | exact HB.out))) : w.heap.size ≤ gb178)); have n6_ := Aside0.mk ((by rw [hg]; exact Nat.ne_of_lt (blk_lt (g := gb165) (o := .cells #[.int .u64 0, .int .u8 0, .slice none 0 0, .slice none 0 0] 26 (0, 0)) (by (with_reducible repeat (first | refine blk_drewN ?_ _ | refine blk_drew ?_ | refine blk_alloc ?_ _)); exact BK165.out)) : gb165 ≠ gb178)); have n7_ := Aside0.mk ((by rw [hg]; exact Nat.ne_of_gt (blk_lt (g := gb165) (o := .cells #[.int .u64 0, .int .u8 0, .slice none 0 0, .slice none 0 0] 26 (0, 0)) (by (with_reducible repeat (first | refine blk_drewN ?_ _ | refine blk_drew ?_ | refine blk_alloc ?_ _)); exact BK165.out)) : gb178 ≠ gb165)); have n8_ := Aside0.mk ((by rw [hg]; exact Nat.ne_of_lt (IsS164.lt (show IsS164 w _ g171 t176 t177 from by repeat (first | (with_reducible first | exact HI171.out | apply IsS164.alloc | apply IsS164.drewN | apply IsS164.drew | apply IsS164.set_0 | apply IsS164.set_1 | refine IsS164.far ?_ NB171_165.out _) | exact HI171.out))) : g171 ≠ gb178)); have n9_ := Aside0.mk ((by rw [hg]; exact Nat.ne_of_gt (IsS164.lt (show IsS164 w _ g171 t176 t177 from by repeat (first | (with_reducible first | exact HI171.out | apply IsS164.alloc | apply IsS164.drewN | apply IsS164.drew | apply IsS164.set_0 | apply IsS164.set_1 | refine IsS164.far ?_ NB171_165.out _) | exact HI171.out))) : gb178 ≠ g171)); clear BK165; clear HI171; clear HB; have BK165 := n0_; have HI171 := n1_; have HB := n2_; have BK178 := n3_; have GW178 := n4_; have GE178 := n5_; have NB165_178 := n6_; have NB178_165 := n7_; have NB171_178 := n8_; have NB178_171 := n9_; clear n0_ n1_ n2_ n3_ n4_ n5_ n6_ n7_ n8_ n9_; clear hb hbox hg; have hnb15 := NB178_165.out; have hnc15 := NB165_178.out; have hnb16 := NB178_171.out; have hnc16 := NB171_178.out; have hcz17_0 : w14.cell? ⟨gb178, 0, none⟩ = some (.int .u64 0) := (blk_cell BK178.out 0).trans rfl; have hcz17_1 : w14.cell? ⟨gb178, 1, none⟩ = some (.int .u8 0) := (blk_cell BK178.out 1).trans rfl; have hcz17_2 : w14.cell? ⟨gb178, 2, none⟩ = some (.slice none 0 0) := (blk_cell BK178.out 2).trans rfl; have hcz17_3 : w14.cell? ⟨gb178, 3, none⟩ = some (.slice none 0 0) := (blk_cell BK178.out 3).trans rfl; have hfz17_0 := blk_frozen BK178.out 0; have hfz17_1 := blk_frozen BK178.out 1; have hfz17_2 := blk_frozen BK178.out 2; have hfz17_3 := blk_frozen BK178.out 3) | ((with_reducible refine gate_callee (f := 43) rfl ?_); refine goesL_ (some 28) rfl rfl Tryz.func43 (by kernel_rfl) rfl #[.pointer (some ⟨g171, 0, none⟩)] rfl (by (try simp only [List.map_toArray, List.map_cons, List.map_nil]); first | done | rfl | (simp only [List.length_drop, List.length_take]; rfl)) ?_; (with_reducible refine (codec_Reader_U8.calls k g171 t176 t177 t179 t180 t181 w _ ?side1 ?side2 A7.out).mono ?_); (case side1 => repeat (first | (with_reducible first | exact HI171.out | apply IsS164.alloc | apply IsS164.drewN | apply IsS164.drew | apply IsS164.set_0 | apply IsS164.set_1 | refine IsS164.far ?_ NB171_165.out _ | refine IsS164.far ?_ NB171_178.out _) | exact HI171.out)); (case side2 => repeat (first | (with_reducible first | exact HB.out | apply below_alloc | apply pw_below_drewN | apply below_drew1 | refine below_set ?_ (IsS164.ge HI171.out) | refine below_set ?_ GE165.out | refine below_set ?_ GE178.out) | exact HB.out)); rintro e w18 ⟨rfl, hi, hb, hk⟩; refine ⟨_, rfl, ?_⟩; have n0_ := Aside0.mk (KeepBut.blk hk (g' := gb165) (o := .cells #[.int .u64 0, .int .u8 0, .slice none 0 0, .slice none 0 0] 26 (0, 0)) (by (with_reducible repeat (first | refine blk_drewN ?_ _ | refine blk_drew ?_ | refine blk_alloc ?_ _)); refine blk_far ?_ NB165_178.out _; (with_reducible repeat (first | refine blk_drewN ?_ _ | refine blk_drew ?_ | refine blk_alloc ?_ _)); refine blk_far ?_ NB165_178.out _; (with_reducible repeat (first | refine blk_drewN ?_ _ | refine blk_drew ?_ | refine blk_alloc ?_ _)); refine blk_far ?_ NB165_178.out _; (with_reducible repeat (first | refine blk_drewN ?_ _ | refine blk_drew ?_ | refine blk_alloc ?_ _)); refine blk_far ?_ NB165_178.out _; (with_reducible repeat (first | refine blk_drewN ?_ _ | refine blk_drew ?_ | refine blk_alloc ?_ _)); exact BK165.out) NB165_171.out (by simp)); have n1_ := Aside0.mk (KeepBut.blk hk (g' := gb178) (o := .cells #[.int .u64 t172, .int .u8 t175, .slice none 0 0, .slice none 0 0] 26 (0, 0)) (by (with_reducible repeat (first | refine blk_drewN ?_ _ | refine blk_drew ?_ | refine blk_alloc ?_ _)); refine blk_put (cs := #[.int .u64 t172, .int .u8 t175, .slice none 0 0, .slice none 0 0]) ?_ 3 _ rfl; (with_reducible repeat (first | refine blk_drewN ?_ _ | refine blk_drew ?_ | refine blk_alloc ?_ _)); refine blk_put (cs := #[.int .u64 t172, .int .u8 t175, .slice none 0 0, .slice none 0 0]) ?_ 2 _ rfl; (with_reducible repeat (first | refine blk_drewN ?_ _ | refine blk_drew ?_ | refine blk_alloc ?_ _)); refine blk_put (cs := #[.int .u64 t172, .int .u8 0, .slice none 0 0, .slice none 0 0]) ?_ 1 _ rfl; (with_reducible repeat (first | refine blk_drewN ?_ _ | refine blk_drew ?_ | refine blk_alloc ?_ _)); refine blk_put (cs := #[.int .u64 0, .int .u8 0, .slice none 0 0, .slice none 0 0]) ?_ 0 _ rfl; (with_reducible repeat (first | refine blk_drewN ?_ _ | refine blk_drew ?_ | refine blk_alloc ?_ _)); exact BK178.out) NB178_171.out (by simp)); have n2_ := Aside0.mk (hb); have n3_ := Aside0.mk (hi); clear BK165; clear BK178; clear HB; clear HI171; have BK165 := n0_; have BK178 := n1_; have HB := n2_; have HI171 := n3_; clear n0_ n1_ n2_ n3_; (try clear hb); (try clear hb2); (try clear hk); (try clear hi)))
    go_loopg [30] k (fun kq v30 w' => ∃ (x30_1 : Int) (x172000_1 : ByteArray) (x172001_1 : Int) (x179002_1 : List (S29)) (u179002 : Value), v30 = .int .u8 x30_1 ∧ Aside0 (manifest_Take.l0 kq a0 t167 ji8 x30_1 x172000_1 x172001_1 t172 t175 x179002_1 = some (r1, r2, r3, r4, r5)) ∧ Aside0 (kq ≤ k) ∧ Aside0 (Kd.R k29 29 w' w.heap.size (fun _ => True) u179002 x179002_1) ∧ Aside0 (w'.heap[gb165]? = some (.cells #[.int .u64 0, .int .u8 0, (.slice none 0 0), (.slice none 0 0)] 26 (0, 0))) ∧ Aside0 (w'.heap[gb178]? = some (.cells #[.int .u64 t172, .int .u8 t175, u179002, (.slice none 0 0)] 26 (0, 0))) ∧ Aside0 (IsS164 w w' g171 x172000_1 x172001_1) ∧ Aside0 (Below w.heap.size w w'))
    case atStart => exact ⟨(0), (t180), (t181), (([] : List (S29))), (.slice none 0 0), (by first | rfl | (simp; done) | (simp [*]; done)), H', ⟨Nat.le_refl _⟩, ⟨by first | exact Kd.R_nil _ _ _ _ _ | exact Kd.N_nil _ _ _ _ _ | exact Kd.V_nil _ _ _ _ _ | exact Kd.Q_nil _ _ _ _ _ | exact Kd.S_nil _ _ _ _ _⟩, ⟨by (with_reducible repeat (first | refine blk_drewN ?_ _ | refine blk_drew ?_ | refine blk_alloc ?_ _)); exact BK165.out⟩, ⟨by (with_reducible repeat (first | refine blk_drewN ?_ _ | refine blk_drew ?_ | refine blk_alloc ?_ _)); exact BK178.out⟩, ⟨by repeat (first | (with_reducible first | exact HI171.out | apply IsS164.alloc | apply IsS164.drewN | apply IsS164.drew | apply IsS164.set_0 | apply IsS164.set_1 | refine IsS164.far ?_ NB171_165.out _ | refine IsS164.far ?_ NB171_178.out _) | exact HI171.out)⟩, ⟨by repeat (first | (with_reducible first | exact HB.out | apply below_alloc | apply pw_below_drewN | apply below_drew1 | refine below_set ?_ (IsS164.ge HI171.out) | refine below_set ?_ GE165.out | refine below_set ?_ GE178.out) | exact HB.out)⟩⟩
    case round =>
      clear H'
      try clear c1
      try clear p2
      try clear c3
      try clear c3b0
      try clear c3b1
      try clear c4
      try clear c12
      try clear c15
      try clear c16
      try clear hcz17_0
      try clear hcz17_1
      try clear hcz17_2
      try clear hcz17_3
      try clear hfz17_0
      try clear hfz17_1
      try clear hfz17_2
      try clear hfz17_3
      obtain ⟨x30_1, x172000_1, x172001_1, x179002_1, u179002, rfl, HA, HK1, HO_179002, BK165, BK178, HI171, HB⟩ := hrel
      cases gk with
      | zero => exact absurd HA.out (by simp [manifest_Take.l0])
      | succ k1 =>
        have H := HA.out
        clear HA
        simp only [manifest_Take.l0] at H
        by_cases c19 : x30_1 < ji8
        · rw [if_pos c19] at H
          have c19b0 : decide (x30_1 < ji8) = true := decide_eq_true c19
          clear c19
          replace H := Option.bind_eq_some_iff.mp H
          obtain ⟨⟨t182, t183, t184⟩, A200, H⟩ := H
          replace H : ((codec_Reader_U64.f k1 t183 t184).bind fun bt186 => (if x179002_1.length < 8796093022208 then (manifest_Take.l0 k1 a0 t167 ji8 ((x30_1 + 1) % 256) bt186.2.1 bt186.2.2 t172 t175 (x179002_1 ++ [(⟨t182, bt186.1⟩ : S29)])) else (none))) = some (r1, r2, r3, r4, r5) := H
          have A20 := Aside0.mk A200
          clear A200
          replace H := Option.bind_eq_some_iff.mp H
          obtain ⟨⟨t186, t187, t188⟩, A210, H⟩ := H
          replace H : (if x179002_1.length < 8796093022208 then (manifest_Take.l0 k1 a0 t167 ji8 ((x30_1 + 1) % 256) t187 t188 t172 t175 (x179002_1 ++ [(⟨t182, t186⟩ : S29)])) else (none)) = some (r1, r2, r3, r4, r5) := H
          have A21 := Aside0.mk A210
          clear A210
          by_cases c22 : x179002_1.length < 8796093022208
          · rw [if_pos c22] at H
            have LMc22 := Aside0.mk c22
            clear c22
            obtain ⟨y189, hy189⟩ : ∃ y_ : List (S29), y_ = (x179002_1 ++ [(⟨t182, t186⟩ : S29)]) := ⟨_, rfl⟩
            replace H : (manifest_Take.l0 k1 a0 t167 ji8 ((x30_1 + 1) % 256) t187 t188 t172 t175 y189) = some (r1, r2, r3, r4, r5) := by first | (rw [hy189]; with_reducible exact H) | (have H2_ := (Option.bind_some _ _).symm.trans H; rw [hy189]; with_reducible exact H2_) | (have H2_ := (Option.bind_some _ _).symm.trans H; with_reducible exact H2_) | with_reducible exact H | (rw [hy189]; exact H) | exact H
            have Ny189 := Aside0.mk hy189
            clear hy189
            have H' := Aside0.mk H
            clear H
            go_wp2_with (first | ((with_reducible refine gate_callee (f := 42) rfl ?_); refine goesL_ (some 33) rfl rfl Tryz.func42 (by kernel_rfl) rfl #[.pointer (some ⟨g171, 0, none⟩)] rfl (by (try simp only [List.map_toArray, List.map_cons, List.map_nil]); first | done | rfl | (simp only [List.length_drop, List.length_take]; rfl)) ?_; (with_reducible refine (codec_Reader_U64.calls k1 g171 x172000_1 x172001_1 t182 t183 t184 w _ ?side1 ?side2 A20.out).mono ?_); (case side1 => repeat (first | (with_reducible first | exact HI171.out | apply IsS164.alloc | apply IsS164.drewN | apply IsS164.drew | apply IsS164.set_0 | apply IsS164.set_1 | refine IsS164.far ?_ NB171_165.out _ | refine IsS164.far ?_ NB171_178.out _) | exact HI171.out)); (case side2 => repeat (first | (with_reducible first | exact HB.out | apply below_alloc | apply pw_below_drewN | apply below_drew1 | refine below_set ?_ (IsS164.ge HI171.out) | refine below_set ?_ GE165.out | refine below_set ?_ GE178.out) | exact HB.out)); rintro e w23 ⟨rfl, hi, hb, hk⟩; refine ⟨_, rfl, ?_⟩; have n0_ := Aside0.mk (Kd.R_mono (Kd.R_keep (IsS164.apart (show IsS164 w _ g171 x172000_1 x172001_1 from by repeat (first | (with_reducible first | exact HI171.out | apply IsS164.alloc | apply IsS164.drewN | apply IsS164.drew | apply IsS164.set_0 | apply IsS164.set_1 | refine IsS164.far ?_ NB171_165.out _ | refine IsS164.far ?_ NB171_178.out _) | exact HI171.out)) (by (with_reducible repeat (first | apply Kd.R_alloc | apply Kd.R_drewN | apply Kd.R_drew)); exact HO_179002.out) (by decide)) hk (fun _ h => h.2)) (fun _ h => h.1)); have n1_ := Aside0.mk (KeepBut.blk hk (g' := gb165) (o := .cells #[.int .u64 0, .int .u8 0, .slice none 0 0, .slice none 0 0] 26 (0, 0)) (by (with_reducible repeat (first | refine blk_drewN ?_ _ | refine blk_drew ?_ | refine blk_alloc ?_ _)); exact BK165.out) NB165_171.out (by simp)); have n2_ := Aside0.mk (KeepBut.blk hk (g' := gb178) (o := .cells #[.int .u64 t172, .int .u8 t175, u179002, .slice none 0 0] 26 (0, 0)) (by (with_reducible repeat (first | refine blk_drewN ?_ _ | refine blk_drew ?_ | refine blk_alloc ?_ _)); exact BK178.out) NB178_171.out (by simp)); have n3_ := Aside0.mk (hb); have n4_ := Aside0.mk (hi); clear HO_179002; clear BK165; clear BK178; clear HB; clear HI171; have HO_179002 := n0_; have BK165 := n1_; have BK178 := n2_; have HB := n3_; have HI171 := n4_; clear n0_ n1_ n2_ n3_ n4_; (try clear hb); (try clear hb2); (try clear hk); (try clear hi)) | ((with_reducible refine gate_dst (N := 9) rfl ?_); refine box_event ?hg (N := 9) ?hd (cs := #[.int .u64 0, .int .u64 0]) (t := 29) ?hr ?_; (case hd => rfl); (case hg => rfl); (case hr => first | (go_simp; done) | (go_simp; rfl)); intro gb185 hg w24 hbox hb; have n0_ := Aside0.mk (Kd.R_below (Kd.R_elderB (by (with_reducible repeat (first | apply Kd.R_alloc | apply Kd.R_drewN | apply Kd.R_drew)); exact HO_179002.out) gb185 (Nat.le_of_eq hg.symm)) hb); have n1_ := Aside0.mk (blk_below (g := gb165) (o := .cells #[.int .u64 0, .int .u8 0, .slice none 0 0, .slice none 0 0] 26 (0, 0)) (by (with_reducible repeat (first | refine blk_drewN ?_ _ | refine blk_drew ?_ | refine blk_alloc ?_ _)); exact BK165.out) hb); have n2_ := Aside0.mk (blk_below (g := gb178) (o := .cells #[.int .u64 t172, .int .u8 t175, u179002, .slice none 0 0] 26 (0, 0)) (by (with_reducible repeat (first | refine blk_drewN ?_ _ | refine blk_drew ?_ | refine blk_alloc ?_ _)); exact BK178.out) hb); have n3_ := Aside0.mk (IsS164.below (by repeat (first | (with_reducible first | exact HI171.out | apply IsS164.alloc | apply IsS164.drewN | apply IsS164.drew | apply IsS164.set_0 | apply IsS164.set_1 | refine IsS164.far ?_ NB171_165.out _ | refine IsS164.far ?_ NB171_178.out _) | exact HI171.out)) hb); have n4_ := Aside0.mk (below_step (by repeat (first | (with_reducible first | exact HB.out | apply below_alloc | apply pw_below_drewN | apply below_drew1 | refine below_set ?_ (IsS164.ge HI171.out) | refine below_set ?_ GE165.out | refine below_set ?_ GE178.out) | exact HB.out)) hb); have n5_ := Aside0.mk (hbox); have n6_ := Aside0.mk ((by rw [hg]; exact (below_size (by repeat (first | (with_reducible first | exact HB.out | apply below_alloc | apply pw_below_drewN | apply below_drew1 | refine below_set ?_ (IsS164.ge HI171.out) | refine below_set ?_ GE165.out | refine below_set ?_ GE178.out) | exact HB.out))) : w.heap.size ≤ gb185)); have n7_ := Aside0.mk ((by rw [hg]; exact (below_size (by repeat (first | (with_reducible first | exact HB.out | apply below_alloc | apply pw_below_drewN | apply below_drew1 | refine below_set ?_ (IsS164.ge HI171.out) | refine below_set ?_ GE165.out | refine below_set ?_ GE178.out) | exact HB.out))) : w.heap.size ≤ gb185)); have n8_ := Aside0.mk ((by rw [hg]; exact Nat.ne_of_lt (blk_lt (g := gb165) (o := .cells #[.int .u64 0, .int .u8 0, .slice none 0 0, .slice none 0 0] 26 (0, 0)) (by (with_reducible repeat (first | refine blk_drewN ?_ _ | refine blk_drew ?_ | refine blk_alloc ?_ _)); exact BK165.out)) : gb165 ≠ gb185)); have n9_ := Aside0.mk ((by rw [hg]; exact Nat.ne_of_gt (blk_lt (g := gb165) (o := .cells #[.int .u64 0, .int .u8 0, .slice none 0 0, .slice none 0 0] 26 (0, 0)) (by (with_reducible repeat (first | refine blk_drewN ?_ _ | refine blk_drew ?_ | refine blk_alloc ?_ _)); exact BK165.out)) : gb185 ≠ gb165)); have n10_ := Aside0.mk ((by rw [hg]; exact Nat.ne_of_lt (blk_lt (g := gb178) (o := .cells #[.int .u64 t172, .int .u8 t175, u179002, .slice none 0 0] 26 (0, 0)) (by (with_reducible repeat (first | refine blk_drewN ?_ _ | refine blk_drew ?_ | refine blk_alloc ?_ _)); exact BK178.out)) : gb178 ≠ gb185)); have n11_ := Aside0.mk ((by rw [hg]; exact Nat.ne_of_gt (blk_lt (g := gb178) (o := .cells #[.int .u64 t172, .int .u8 t175, u179002, .slice none 0 0] 26 (0, 0)) (by (with_reducible repeat (first | refine blk_drewN ?_ _ | refine blk_drew ?_ | refine blk_alloc ?_ _)); exact BK178.out)) : gb185 ≠ gb178)); have n12_ := Aside0.mk ((by rw [hg]; exact Nat.ne_of_lt (IsS164.lt (show IsS164 w _ g171 t183 t184 from by repeat (first | (with_reducible first | exact HI171.out | apply IsS164.alloc | apply IsS164.drewN | apply IsS164.drew | apply IsS164.set_0 | apply IsS164.set_1 | refine IsS164.far ?_ NB171_165.out _ | refine IsS164.far ?_ NB171_178.out _) | exact HI171.out))) : g171 ≠ gb185)); have n13_ := Aside0.mk ((by rw [hg]; exact Nat.ne_of_gt (IsS164.lt (show IsS164 w _ g171 t183 t184 from by repeat (first | (with_reducible first | exact HI171.out | apply IsS164.alloc | apply IsS164.drewN | apply IsS164.drew | apply IsS164.set_0 | apply IsS164.set_1 | refine IsS164.far ?_ NB171_165.out _ | refine IsS164.far ?_ NB171_178.out _) | exact HI171.out))) : gb185 ≠ g171)); clear HO_179002; clear BK165; clear BK178; clear HI171; clear HB; have HO_179002 := n0_; have BK165 := n1_; have BK178 := n2_; have HI171 := n3_; have HB := n4_; have BK185 := n5_; have GW185 := n6_; have GE185 := n7_; have NB165_185 := n8_; have NB185_165 := n9_; have NB178_185 := n10_; have NB185_178 := n11_; have NB171_185 := n12_; have NB185_171 := n13_; clear n0_ n1_ n2_ n3_ n4_ n5_ n6_ n7_ n8_ n9_ n10_ n11_ n12_ n13_; clear hb hbox hg; have hnb25 := NB185_165.out; have hnc25 := NB165_185.out; have hnb26 := NB185_178.out; have hnc26 := NB178_185.out; have hnb27 := NB185_171.out; have hnc27 := NB171_185.out; have hcz28_0 : w24.cell? ⟨gb185, 0, none⟩ = some (.int .u64 0) := (blk_cell BK185.out 0).trans rfl; have hcz28_1 : w24.cell? ⟨gb185, 1, none⟩ = some (.int .u64 0) := (blk_cell BK185.out 1).trans rfl; have hfz28_0 := blk_frozen BK185.out 0; have hfz28_1 := blk_frozen BK185.out 1) | ((with_reducible refine gate_callee (f := 42) rfl ?_); refine goesL_ (some 36) rfl rfl Tryz.func42 (by kernel_rfl) rfl #[.pointer (some ⟨g171, 0, none⟩)] rfl (by (try simp only [List.map_toArray, List.map_cons, List.map_nil]); first | done | rfl | (simp only [List.length_drop, List.length_take]; rfl)) ?_; (with_reducible refine (codec_Reader_U64.calls k1 g171 t183 t184 t186 t187 t188 w _ ?side1 ?side2 A21.out).mono ?_); (case side1 => repeat (first | (with_reducible first | exact HI171.out | apply IsS164.alloc | apply IsS164.drewN | apply IsS164.drew | apply IsS164.set_0 | apply IsS164.set_1 | refine IsS164.far ?_ NB171_165.out _ | refine IsS164.far ?_ NB171_178.out _ | refine IsS164.far ?_ NB171_185.out _) | exact HI171.out)); (case side2 => repeat (first | (with_reducible first | exact HB.out | apply below_alloc | apply pw_below_drewN | apply below_drew1 | refine below_set ?_ (IsS164.ge HI171.out) | refine below_set ?_ GE165.out | refine below_set ?_ GE178.out | refine below_set ?_ GE185.out) | exact HB.out)); rintro e w29 ⟨rfl, hi, hb, hk⟩; refine ⟨_, rfl, ?_⟩; have n0_ := Aside0.mk (Kd.R_mono (Kd.R_keep (IsS164.apart (show IsS164 w _ g171 t183 t184 from by repeat (first | (with_reducible first | exact HI171.out | apply IsS164.alloc | apply IsS164.drewN | apply IsS164.drew | apply IsS164.set_0 | apply IsS164.set_1 | refine IsS164.far ?_ NB171_165.out _ | refine IsS164.far ?_ NB171_178.out _ | refine IsS164.far ?_ NB171_185.out _) | exact HI171.out)) (by (with_reducible repeat (first | apply Kd.R_alloc | apply Kd.R_drewN | apply Kd.R_drew)); exact (Kd.R_mono (Kd.R_far (p := ⟨gb185, 1, none⟩) (Kd.R_far (p := ⟨gb185, 0, none⟩) (Kd.R_mono HO_179002.out (fun k_ hk => (⟨hk, hk.2⟩ : _ ∧ k_ ≠ gb185))) (fun _ hk => hk.2) (.int .u64 t182)) (fun _ hk => hk.2) (.int .u64 0)) (fun _ h_ => h_.1))) (by decide)) hk (fun _ h => h.2)) (fun _ h => h.1)); have n1_ := Aside0.mk (KeepBut.blk hk (g' := gb165) (o := .cells #[.int .u64 0, .int .u8 0, .slice none 0 0, .slice none 0 0] 26 (0, 0)) (by (with_reducible repeat (first | refine blk_drewN ?_ _ | refine blk_drew ?_ | refine blk_alloc ?_ _)); refine blk_far ?_ NB165_185.out _; (with_reducible repeat (first | refine blk_drewN ?_ _ | refine blk_drew ?_ | refine blk_alloc ?_ _)); refine blk_far ?_ NB165_185.out _; (with_reducible repeat (first | refine blk_drewN ?_ _ | refine blk_drew ?_ | refine blk_alloc ?_ _)); exact BK165.out) NB165_171.out (by simp)); have n2_ := Aside0.mk (KeepBut.blk hk (g' := gb178) (o := .cells #[.int .u64 t172, .int .u8 t175, u179002, .slice none 0 0] 26 (0, 0)) (by (with_reducible repeat (first | refine blk_drewN ?_ _ | refine blk_drew ?_ | refine blk_alloc ?_ _)); refine blk_far ?_ NB178_185.out _; (with_reducible repeat (first | refine blk_drewN ?_ _ | refine blk_drew ?_ | refine blk_alloc ?_ _)); refine blk_far ?_ NB178_185.out _; (with_reducible repeat (first | refine blk_drewN ?_ _ | refine blk_drew ?_ | refine blk_alloc ?_ _)); exact BK178.out) NB178_171.out (by simp)); have n3_ := Aside0.mk (KeepBut.blk hk (g' := gb185) (o := .cells #[.int .u64 t182, .int .u64 0] 29 (0, 0)) (by (with_reducible repeat (first | refine blk_drewN ?_ _ | refine blk_drew ?_ | refine blk_alloc ?_ _)); refine blk_put (cs := #[.int .u64 t182, .int .u64 0]) ?_ 1 _ rfl; (with_reducible repeat (first | refine blk_drewN ?_ _ | refine blk_drew ?_ | refine blk_alloc ?_ _)); refine blk_put (cs := #[.int .u64 0, .int .u64 0]) ?_ 0 _ rfl; (with_reducible repeat (first | refine blk_drewN ?_ _ | refine blk_drew ?_ | refine blk_alloc ?_ _)); exact BK185.out) NB185_171.out (by simp)); have n4_ := Aside0.mk (hb); have n5_ := Aside0.mk (hi); clear HO_179002; clear BK165; clear BK178; clear BK185; clear HB; clear HI171; have HO_179002 := n0_; have BK165 := n1_; have BK178 := n2_; have BK185 := n3_; have HB := n4_; have HI171 := n5_; clear n0_ n1_ n2_ n3_ n4_ n5_; (try clear hb); (try clear hb2); (try clear hk); (try clear hi); have hcz30_0 : w29.cell? ⟨gb185, 0, none⟩ = some (.int .u64 t182) := (blk_cell BK185.out 0).trans rfl; have hcz30_1 : w29.cell? ⟨gb185, 1, none⟩ = some (.int .u64 0) := (blk_cell BK185.out 1).trans rfl; have hfz30_0 := blk_frozen BK185.out 0; have hfz30_1 := blk_frozen BK185.out 1; have hnb31 := NB178_165.out; have hnc31 := NB165_178.out; have hnb32 := NB178_171.out; have hnc32 := NB171_178.out; have hcz33_0 : w29.cell? ⟨gb178, 0, none⟩ = some (.int .u64 t172) := (blk_cell BK178.out 0).trans rfl; have hcz33_1 : w29.cell? ⟨gb178, 1, none⟩ = some (.int .u8 t175) := (blk_cell BK178.out 1).trans rfl; have hcz33_2 : w29.cell? ⟨gb178, 2, none⟩ = some (u179002) := (blk_cell BK178.out 2).trans rfl; have hcz33_3 : w29.cell? ⟨gb178, 3, none⟩ = some (.slice none 0 0) := (blk_cell BK178.out 3).trans rfl; have hfz33_0 := blk_frozen BK178.out 0; have hfz33_1 := blk_frozen BK178.out 1; have hfz33_2 := blk_frozen BK178.out 2; have hfz33_3 := blk_frozen BK178.out 3) | ((with_reducible refine gate_builtin (b := .append) (xs := #[.tmp 39, .tmp 41]) rfl ?_); at_builtin; refine Kd.R_append k29 (w0 := w) w.heap.size rfl (.tmp 39) (.tmp 41) 23 29 (.agg #[(.int .u64 0), (.int .u64 0)]) 16 rfl Tryz.underlying23 info29 rfl (by decide) (by omega) u179002 x179002_1 (⟨t182, t186⟩ : S29) [.int .u64 t182, .int .u64 t186] (fun k_ => k_ ≠ gb185) (fun _ => False) rfl (by first | (go_simp; done) | (go_simp; rfl)) ?aP (fun _ hk => hk.elim) ?aF ?aO ?aB ?aS ?aL ?_; (case aP => exact k29_mkM _ _ _ (⟨t182, t186⟩ : S29)); (case aB => exact (by repeat (first | (with_reducible first | exact HB.out | apply below_alloc | apply pw_below_drewN | apply below_drew1 | refine below_set ?_ (IsS164.ge HI171.out) | refine below_set ?_ GE165.out | refine below_set ?_ GE178.out | refine below_set ?_ GE185.out) | exact HB.out))); (case aF => exact (fun k_ hk => Kd.freshB (g := gb185) (o := .cells #[.int .u64 t182, .int .u64 t186] 29 (0, 0)) (by (with_reducible repeat (first | refine blk_drewN ?_ _ | refine blk_drew ?_ | refine blk_alloc ?_ _)); refine blk_put (cs := #[.int .u64 t182, .int .u64 0]) ?_ 1 _ rfl; (with_reducible repeat (first | refine blk_drewN ?_ _ | refine blk_drew ?_ | refine blk_alloc ?_ _)); exact BK185.out) k_ hk)); (case aO => exact (by (with_reducible repeat (first | apply Kd.R_alloc | apply Kd.R_drewN | apply Kd.R_drew)); exact Kd.R_mono (Kd.R_far (p := ⟨gb185, 1, none⟩) (Kd.R_mono HO_179002.out (fun k_ hk => (⟨hk, hk.2⟩ : _ ∧ k_ ≠ gb185))) (fun _ hk => hk.2) (.int .u64 t186)) (fun _ hk => hk.1.2))); (case aS => exact (below_size (by repeat (first | (with_reducible first | exact HB.out | apply below_alloc | apply pw_below_drewN | apply below_drew1 | refine below_set ?_ (IsS164.ge HI171.out) | refine below_set ?_ GE165.out | refine below_set ?_ GE178.out | refine below_set ?_ GE185.out) | exact HB.out)))); (case aL => have := LMc22.out; omega); intro v190 w34 ho hb hg hat; rw [← Ny189.out] at ho; have n0_ := Aside0.mk (blk_grown (g := gb165) (o := .cells #[.int .u64 0, .int .u8 0, .slice none 0 0, .slice none 0 0] 26 (0, 0)) (by (with_reducible repeat (first | refine blk_drewN ?_ _ | refine blk_drew ?_ | refine blk_alloc ?_ _)); refine blk_far ?_ NB165_185.out _; (with_reducible repeat (first | refine blk_drewN ?_ _ | refine blk_drew ?_ | refine blk_alloc ?_ _)); exact BK165.out) hg (Kd.R_ne HO_179002.out BK165.out (by decide))); have n1_ := Aside0.mk (blk_grown (g := gb178) (o := .cells #[.int .u64 t172, .int .u8 t175, u179002, .slice none 0 0] 26 (0, 0)) (by (with_reducible repeat (first | refine blk_drewN ?_ _ | refine blk_drew ?_ | refine blk_alloc ?_ _)); refine blk_far ?_ NB178_185.out _; (with_reducible repeat (first | refine blk_drewN ?_ _ | refine blk_drew ?_ | refine blk_alloc ?_ _)); exact BK178.out) hg (Kd.R_ne HO_179002.out BK178.out (by decide))); have n2_ := Aside0.mk (by first | exact IsS164.grown HI171.out hg (IsS164.own_ne HI171.out HO_179002.out (by decide)) | exact IsS164.grown (IsS164.far HI171.out NB171_165.out _) hg (IsS164.own_ne HI171.out HO_179002.out (by decide)) | exact IsS164.grown (IsS164.far HI171.out NB171_178.out _) hg (IsS164.own_ne HI171.out HO_179002.out (by decide)) | exact IsS164.grown (IsS164.far HI171.out NB171_185.out _) hg (IsS164.own_ne HI171.out HO_179002.out (by decide)) | exact IsS164.grown (IsS164.far (IsS164.far HI171.out NB171_165.out _) NB171_165.out _) hg (IsS164.own_ne HI171.out HO_179002.out (by decide)) | exact IsS164.grown (IsS164.far (IsS164.far HI171.out NB171_165.out _) NB171_178.out _) hg (IsS164.own_ne HI171.out HO_179002.out (by decide)) | exact IsS164.grown (IsS164.far (IsS164.far HI171.out NB171_165.out _) NB171_185.out _) hg (IsS164.own_ne HI171.out HO_179002.out (by decide)) | exact IsS164.grown (IsS164.far (IsS164.far HI171.out NB171_178.out _) NB171_165.out _) hg (IsS164.own_ne HI171.out HO_179002.out (by decide)) | exact IsS164.grown (IsS164.far (IsS164.far HI171.out NB171_178.out _) NB171_178.out _) hg (IsS164.own_ne HI171.out HO_179002.out (by decide)) | exact IsS164.grown (IsS164.far (IsS164.far HI171.out NB171_178.out _) NB171_185.out _) hg (IsS164.own_ne HI171.out HO_179002.out (by decide)) | exact IsS164.grown (IsS164.far (IsS164.far HI171.out NB171_185.out _) NB171_165.out _) hg (IsS164.own_ne HI171.out HO_179002.out (by decide)) | exact IsS164.grown (IsS164.far (IsS164.far HI171.out NB171_185.out _) NB171_178.out _) hg (IsS164.own_ne HI171.out HO_179002.out (by decide)) | exact IsS164.grown (IsS164.far (IsS164.far HI171.out NB171_185.out _) NB171_185.out _) hg (IsS164.own_ne HI171.out HO_179002.out (by decide))); have n3_ := Aside0.mk (blk_grown (g := gb185) (o := .cells #[.int .u64 t182, .int .u64 t186] 29 (0, 0)) (by (with_reducible repeat (first | refine blk_drewN ?_ _ | refine blk_drew ?_ | refine blk_alloc ?_ _)); refine blk_put (cs := #[.int .u64 t182, .int .u64 0]) ?_ 1 _ rfl; (with_reducible repeat (first | refine blk_drewN ?_ _ | refine blk_drew ?_ | refine blk_alloc ?_ _)); exact BK185.out) hg (Kd.R_away HO_179002.out (fun _ hk => hk.2))); have n4_ := Aside0.mk (hb); have n5_ := Aside0.mk (ho); clear BK165; clear BK178; clear HI171; clear BK185; clear HB; clear HO_179002; have BK165 := n0_; have BK178 := n1_; have HI171 := n2_; have BK185 := n3_; have HB := n4_; have HO191 := n5_; clear n0_ n1_ n2_ n3_ n4_ n5_; clear ho hb hg hat; obtain ⟨Ao35, co35, eo35⟩ := Kd.R_slice HO191.out; subst eo35; have hcz36_0 : w34.cell? ⟨gb178, 0, none⟩ = some (.int .u64 t172) := (blk_cell BK178.out 0).trans rfl; have hcz36_1 : w34.cell? ⟨gb178, 1, none⟩ = some (.int .u8 t175) := (blk_cell BK178.out 1).trans rfl; have hcz36_2 : w34.cell? ⟨gb178, 2, none⟩ = some (u179002) := (blk_cell BK178.out 2).trans rfl; have hcz36_3 : w34.cell? ⟨gb178, 3, none⟩ = some (.slice none 0 0) := (blk_cell BK178.out 3).trans rfl; have hfz36_0 := blk_frozen BK178.out 0; have hfz36_1 := blk_frozen BK178.out 1; have hfz36_2 := blk_frozen BK178.out 2; have hfz36_3 := blk_frozen BK178.out 3))
            go_roundg k1
            case measure => have := HK1.out; omega
            case rel => exact ⟨((x30_1 + 1) % 256), (t187), (t188), (y189), (.slice Ao35 y189.length co35), (by first | rfl | (simp; done) | (simp [*]; done)), H', ⟨by have := HK1.out; omega⟩, ⟨by (with_reducible repeat (first | apply Kd.R_alloc | apply Kd.R_drewN | apply Kd.R_drew)); exact Kd.R_mono (Kd.R_far (p := ⟨gb178, 2, none⟩) (Kd.R_types HO191.out BK178.out (by decide)) (fun _ hk => hk.2) (.slice Ao35 y189.length co35)) (fun _ hk => trivial)⟩, ⟨by (with_reducible repeat (first | refine blk_drewN ?_ _ | refine blk_drew ?_ | refine blk_alloc ?_ _)); refine blk_far ?_ NB165_178.out _; (with_reducible repeat (first | refine blk_drewN ?_ _ | refine blk_drew ?_ | refine blk_alloc ?_ _)); exact BK165.out⟩, ⟨by (with_reducible repeat (first | refine blk_drewN ?_ _ | refine blk_drew ?_ | refine blk_alloc ?_ _)); refine blk_put (cs := #[.int .u64 t172, .int .u8 t175, u179002, .slice none 0 0]) ?_ 2 _ rfl; (with_reducible repeat (first | refine blk_drewN ?_ _ | refine blk_drew ?_ | refine blk_alloc ?_ _)); exact BK178.out⟩, ⟨by repeat (first | (with_reducible first | exact HI171.out | apply IsS164.alloc | apply IsS164.drewN | apply IsS164.drew | apply IsS164.set_0 | apply IsS164.set_1 | refine IsS164.far ?_ NB171_165.out _ | refine IsS164.far ?_ NB171_178.out _ | refine IsS164.far ?_ NB171_185.out _) | exact HI171.out)⟩, ⟨by repeat (first | (with_reducible first | exact HB.out | apply below_alloc | apply pw_below_drewN | apply below_drew1 | refine below_set ?_ (IsS164.ge HI171.out) | refine below_set ?_ GE165.out | refine below_set ?_ GE178.out | refine below_set ?_ GE185.out) | exact HB.out)⟩⟩
          · rw [if_neg c22] at H
            exact absurd H (by simp)
        · rw [if_neg c19] at H
          have c19b0 : decide (x30_1 < ji8) = false := decide_eq_false c19
          clear c19
          replace H := Option.bind_eq_some_iff.mp H
          obtain ⟨⟨t192, t193, t194⟩, A370, H⟩ := H
          replace H : (manifest_Take.l1 k1 a0 t167 (mn t192 3) 0 t193 t194 t172 t175 x179002_1 ([] : List Int)) = some (r1, r2, r3, r4, r5) := H
          have A37 := Aside0.mk A370
          clear A370
          obtain ⟨ji38, hji38⟩ : ∃ j_ : Int, (mn t192 3) = j_ := ⟨_, rfl⟩
          replace H : (manifest_Take.l1 k1 a0 t167 ji38 0 t193 t194 t172 t175 x179002_1 ([] : List Int)) = some (r1, r2, r3, r4, r5) := by first | (rw [hji38] at H; exact H) | (simp only [hji38] at H ⊢; exact H)
          (try rw [hji38] at A37)
          (try (have hji38h : ji38 ≤ 3 := by (rw [← hji38]; unfold mn; (repeat' split) <;> omega)))
          (try (have hji38g : ji38 ≤ 64 := by omega))
          have hji38_ : (if 3 < t192 then 3 else t192) = ji38 := hji38
          have H' := Aside0.mk H
          clear H
          go_wp2_with (first | ((with_reducible refine gate_callee (f := 43) rfl ?_); refine goesL_ (some 46) rfl rfl Tryz.func43 (by kernel_rfl) rfl #[.pointer (some ⟨g171, 0, none⟩)] rfl (by (try simp only [List.map_toArray, List.map_cons, List.map_nil]); first | done | rfl | (simp only [List.length_drop, List.length_take]; rfl)) ?_; (with_reducible refine (codec_Reader_U8.calls k1 g171 x172000_1 x172001_1 t192 t193 t194 w _ ?side1 ?side2 A37.out).mono ?_); (case side1 => repeat (first | (with_reducible first | exact HI171.out | apply IsS164.alloc | apply IsS164.drewN | apply IsS164.drew | apply IsS164.set_0 | apply IsS164.set_1 | refine IsS164.far ?_ NB171_165.out _ | refine IsS164.far ?_ NB171_178.out _) | exact HI171.out)); (case side2 => repeat (first | (with_reducible first | exact HB.out | apply below_alloc | apply pw_below_drewN | apply below_drew1 | refine below_set ?_ (IsS164.ge HI171.out) | refine below_set ?_ GE165.out | refine below_set ?_ GE178.out) | exact HB.out)); rintro e w39 ⟨rfl, hi, hb, hk⟩; refine ⟨_, rfl, ?_⟩; have n0_ := Aside0.mk (Kd.R_mono (Kd.R_keep (IsS164.apart (show IsS164 w _ g171 x172000_1 x172001_1 from by repeat (first | (with_reducible first | exact HI171.out | apply IsS164.alloc | apply IsS164.drewN | apply IsS164.drew | apply IsS164.set_0 | apply IsS164.set_1 | refine IsS164.far ?_ NB171_165.out _ | refine IsS164.far ?_ NB171_178.out _) | exact HI171.out)) (by (with_reducible repeat (first | apply Kd.R_alloc | apply Kd.R_drewN | apply Kd.R_drew)); exact HO_179002.out) (by decide)) hk (fun _ h => h.2)) (fun _ h => h.1)); have n1_ := Aside0.mk (KeepBut.blk hk (g' := gb165) (o := .cells #[.int .u64 0, .int .u8 0, .slice none 0 0, .slice none 0 0] 26 (0, 0)) (by (with_reducible repeat (first | refine blk_drewN ?_ _ | refine blk_drew ?_ | refine blk_alloc ?_ _)); exact BK165.out) NB165_171.out (by simp)); have n2_ := Aside0.mk (KeepBut.blk hk (g' := gb178) (o := .cells #[.int .u64 t172, .int .u8 t175, u179002, .slice none 0 0] 26 (0, 0)) (by (with_reducible repeat (first | refine blk_drewN ?_ _ | refine blk_drew ?_ | refine blk_alloc ?_ _)); exact BK178.out) NB178_171.out (by simp)); have n3_ := Aside0.mk (hb); have n4_ := Aside0.mk (hi); clear HO_179002; clear BK165; clear BK178; clear HB; clear HI171; have HO_179002 := n0_; have BK165 := n1_; have BK178 := n2_; have HB := n3_; have HI171 := n4_; clear n0_ n1_ n2_ n3_ n4_; (try clear hb); (try clear hb2); (try clear hk); (try clear hi)))
          go_loopg [48] k1 (fun kq v48 w' => ∃ (x48_2 : Int) (x172000_2 : ByteArray) (x172001_2 : Int) (x179003_2 : List Int) (u179003 : Value), v48 = .int .u8 x48_2 ∧ Aside0 (manifest_Take.l1 kq a0 t167 ji38 x48_2 x172000_2 x172001_2 t172 t175 x179002_1 x179003_2 = some (r1, r2, r3, r4, r5)) ∧ Aside0 (kq ≤ k1) ∧ Aside0 (Kd.R k29 29 w' w.heap.size (fun _ => True) u179002 x179002_1) ∧ Aside0 (Kd.R (Kd.int .u64) 22 w' w.heap.size (fun _ => True) u179003 x179003_2) ∧ Aside0 (w'.heap[gb165]? = some (.cells #[.int .u64 0, .int .u8 0, (.slice none 0 0), (.slice none 0 0)] 26 (0, 0))) ∧ Aside0 (w'.heap[gb178]? = some (.cells #[.int .u64 t172, .int .u8 t175, u179002, u179003] 26 (0, 0))) ∧ Aside0 (IsS164 w w' g171 x172000_2 x172001_2) ∧ Aside0 (Below w.heap.size w w'))
          case atStart => exact ⟨(0), (t193), (t194), (([] : List Int)), (.slice none 0 0), (by first | rfl | (simp; done) | (simp [*]; done)), H', ⟨Nat.le_refl _⟩, ⟨by (with_reducible repeat (first | apply Kd.R_alloc | apply Kd.R_drewN | apply Kd.R_drew)); exact HO_179002.out⟩, ⟨by first | exact Kd.R_nil _ _ _ _ _ | exact Kd.N_nil _ _ _ _ _ | exact Kd.V_nil _ _ _ _ _ | exact Kd.Q_nil _ _ _ _ _ | exact Kd.S_nil _ _ _ _ _⟩, ⟨by (with_reducible repeat (first | refine blk_drewN ?_ _ | refine blk_drew ?_ | refine blk_alloc ?_ _)); exact BK165.out⟩, ⟨by (with_reducible repeat (first | refine blk_drewN ?_ _ | refine blk_drew ?_ | refine blk_alloc ?_ _)); exact BK178.out⟩, ⟨by repeat (first | (with_reducible first | exact HI171.out | apply IsS164.alloc | apply IsS164.drewN | apply IsS164.drew | apply IsS164.set_0 | apply IsS164.set_1 | refine IsS164.far ?_ NB171_165.out _ | refine IsS164.far ?_ NB171_178.out _) | exact HI171.out)⟩, ⟨by repeat (first | (with_reducible first | exact HB.out | apply below_alloc | apply pw_below_drewN | apply below_drew1 | refine below_set ?_ (IsS164.ge HI171.out) | refine below_set ?_ GE165.out | refine below_set ?_ GE178.out) | exact HB.out)⟩⟩
          case round =>
            clear H'
            try clear c1
            try clear c2
            try clear p2
            try clear c3
            try clear c3b0
            try clear c3b1
            try clear c4
            try clear c12
            try clear c15
            try clear c16
            try clear c19
            try clear c19b0
            try clear c22
            try clear c25
            try clear c26
            try clear c27
            try clear c31
            try clear c32
            try clear hcz17_0
            try clear hcz17_1
            try clear hcz17_2
            try clear hcz17_3
            try clear hcz28_0
            try clear hcz28_1
            try clear hcz30_0
            try clear hcz30_1
            try clear hcz33_0
            try clear hcz33_1
            try clear hcz33_2
            try clear hcz33_3
            try clear hcz36_0
            try clear hcz36_1
            try clear hcz36_2
            try clear hcz36_3
            try clear hfz17_0
            try clear hfz17_1
            try clear hfz17_2
            try clear hfz17_3
            try clear hfz28_0
            try clear hfz28_1
            try clear hfz30_0
            try clear hfz30_1
            try clear hfz33_0
            try clear hfz33_1
            try clear hfz33_2
            try clear hfz33_3
            try clear hfz36_0
            try clear hfz36_1
            try clear hfz36_2
            try clear hfz36_3
            try clear p2
            obtain ⟨x48_2, x172000_2, x172001_2, x179003_2, u179003, rfl, HA, HK2, HO_179002, HO_179003, BK165, BK178, HI171, HB⟩ := hrel
            cases gk with
            | zero => exact absurd HA.out (by simp [manifest_Take.l1])
            | succ k2 =>
              have H := HA.out
              clear HA
              simp only [manifest_Take.l1] at H
              by_cases c40 : x48_2 < ji38
              · rw [if_pos c40] at H
                have c40b0 : decide (x48_2 < ji38) = true := decide_eq_true c40
                clear c40
                replace H := Option.bind_eq_some_iff.mp H
                obtain ⟨⟨t195, t196, t197⟩, A410, H⟩ := H
                replace H : (if x179003_2.length < 17592186044416 then (manifest_Take.l1 k2 a0 t167 ji38 ((x48_2 + 1) % 256) t196 t197 t172 t175 x179002_1 (x179003_2 ++ [t195])) else (none)) = some (r1, r2, r3, r4, r5) := H
                have A41 := Aside0.mk A410
                clear A410
                by_cases c42 : x179003_2.length < 17592186044416
                · rw [if_pos c42] at H
                  have LMc42 := Aside0.mk c42
                  clear c42
                  obtain ⟨y198, hy198⟩ : ∃ y_ : List Int, y_ = (x179003_2 ++ [t195]) := ⟨_, rfl⟩
                  replace H : (manifest_Take.l1 k2 a0 t167 ji38 ((x48_2 + 1) % 256) t196 t197 t172 t175 x179002_1 y198) = some (r1, r2, r3, r4, r5) := by first | (rw [hy198]; with_reducible exact H) | (have H2_ := (Option.bind_some _ _).symm.trans H; rw [hy198]; with_reducible exact H2_) | (have H2_ := (Option.bind_some _ _).symm.trans H; with_reducible exact H2_) | with_reducible exact H | (rw [hy198]; exact H) | exact H
                  have Ny198 := Aside0.mk hy198
                  clear hy198
                  have H' := Aside0.mk H
                  clear H
                  try go_wp2
                  have n0_ := Aside0.mk (Kd.R_drew HO_179002.out)
                  have n1_ := Aside0.mk (Kd.R_drew HO_179003.out)
                  have n2_ := Aside0.mk (blk_drew BK165.out)
                  have n3_ := Aside0.mk (blk_drew BK178.out)
                  have n4_ := Aside0.mk (IsS164.drew HI171.out)
                  have n5_ := Aside0.mk (below_drew1 HB.out)
                  clear HO_179002
                  clear HO_179003
                  clear BK165
                  clear BK178
                  clear HI171
                  clear HB
                  have HO_179002 := n0_
                  have HO_179003 := n1_
                  have BK165 := n2_
                  have BK178 := n3_
                  have HI171 := n4_
                  have HB := n5_
                  clear n0_ n1_ n2_ n3_ n4_ n5_
                  refine start_ (n := 8) (S := fun w' => w'.cell? ⟨gb178, 0, none⟩ = some (.int .u64 t172) ∧ w'.cell? ⟨gb178, 1, none⟩ = some (.int .u8 t175) ∧ w'.cell? ⟨gb178, 2, none⟩ = some (u179002) ∧ w'.cell? ⟨gb178, 3, none⟩ = some (u179003)) (ds := [7]) #[false, false, false, false, false, false, false, false] (by kernel_rfl) rfl rfl ⟨(blk_cell BK178.out 0).trans rfl, (blk_cell BK178.out 1).trans rfl, (blk_cell BK178.out 2).trans rfl, (blk_cell BK178.out 3).trans rfl⟩ (fun hHeld => ?_); refine with_tabW manifest_Take.tab14 manifest_Take.bits14 (fun HT_ HW_ => ?_)
                  generalize wr.drew = w43 at HO_179002 HO_179003 BK165 BK178 HI171 HB hHeld ⊢
                  refine pure_ (i := 0) (N := some 50) (v := ?_) (a' := ?_) #[true, false, false, false, false, false, false, false] rfl rfl (any_of HT_.out (by kernel_rfl)) (fun _ _ _ h => h) (Or.inl ⟨by rfl, ?_⟩) ?_ ?_
                  rotate_left
                  · intro w'
                    go_simp
                    with_reducible rfl
                  rotate_left
                  · simp only [Act.put, List.setIfInBounds_toArray, List.set_cons_zero, List.set_cons_succ, i64_w, i32_w]
                    rfl
                  refine pure_ (i := 2) (N := some 52) (v := ?_) (a' := ?_) #[true, false, true, false, false, false, false, false] rfl rfl (any_of HT_.out (by kernel_rfl)) (fun _ _ _ h => h) (Or.inl ⟨by rfl, ?_⟩) ?_ ?_
                  rotate_left
                  · intro w'
                    go_simp
                    with_reducible rfl
                  rotate_left
                  · simp only [Act.put, List.setIfInBounds_toArray, List.set_cons_zero, List.set_cons_succ, i64_w, i32_w]
                    rfl
                  refine take_ (i := 1) (N := some 51) (v := ?_) (a' := ?_) #[true, true, true, false, false, false, false, false] rfl rfl (take_ofW HT_.out HW_.out (by kernel_rfl)) (fun _ _ _ h => h) (Or.inl ⟨by rfl, ?_⟩) hHeld ?_ ?_
                  rotate_left
                  · rintro w' ⟨s0, s1, s2, s3⟩
                    go_simp
                    with_reducible rfl
                  rotate_left
                  · simp only [Act.put, List.setIfInBounds_toArray, List.set_cons_zero, List.set_cons_succ, i64_w, i32_w]
                    rfl
                  refine one_ (i := 3) (N := some 53) #[true, true, true, true, false, false, false, false] rfl rfl (one_of HT_.out (by kernel_rfl)) (by decide) (fun K hK => ?_)
                  refine goes_ Tryz.func42 (by kernel_rfl) rfl #[.pointer (some ⟨g171, 0, none⟩)] (by rfl) rfl rfl (by (try simp only [List.map_toArray, List.map_cons, List.map_nil]); first | done | rfl | (simp only [List.length_drop, List.length_take]; rfl)) ?_
                  with_reducible refine (codec_Reader_U64.calls k2 g171 x172000_2 x172001_2 t195 t196 t197 w _ ?side1 ?side2 A41.out).mono ?_
                  (case side1 => repeat (first | (with_reducible first | exact HI171.out | apply IsS164.alloc | apply IsS164.drewN | apply IsS164.drew | apply IsS164.set_0 | apply IsS164.set_1 | refine IsS164.far ?_ NB171_165.out _ | refine IsS164.far ?_ NB171_178.out _) | exact HI171.out))
                  (case side2 => repeat (first | (with_reducible first | exact HB.out | apply below_alloc | apply pw_below_drewN | apply below_drew1 | refine below_set ?_ (IsS164.ge HI171.out) | refine below_set ?_ GE165.out | refine below_set ?_ GE178.out) | exact HB.out))
                  rintro e w44 ⟨rfl, hi, hb, hk⟩
                  refine ⟨_, rfl, ?_⟩
                  have n0_ := Aside0.mk (Kd.R_mono (Kd.R_keep (IsS164.apart (show IsS164 w _ g171 x172000_2 x172001_2 from by repeat (first | (with_reducible first | exact HI171.out | apply IsS164.alloc | apply IsS164.drewN | apply IsS164.drew | apply IsS164.set_0 | apply IsS164.set_1 | refine IsS164.far ?_ NB171_165.out _ | refine IsS164.far ?_ NB171_178.out _) | exact HI171.out)) (by (with_reducible repeat (first | apply Kd.R_alloc | apply Kd.R_drewN | apply Kd.R_drew)); exact HO_179002.out) (by decide)) hk (fun _ h => h.2)) (fun _ h => h.1))
                  have n1_ := Aside0.mk (Kd.R_mono (Kd.R_keep (IsS164.apart (show IsS164 w _ g171 x172000_2 x172001_2 from by repeat (first | (with_reducible first | exact HI171.out | apply IsS164.alloc | apply IsS164.drewN | apply IsS164.drew | apply IsS164.set_0 | apply IsS164.set_1 | refine IsS164.far ?_ NB171_165.out _ | refine IsS164.far ?_ NB171_178.out _) | exact HI171.out)) (by (with_reducible repeat (first | apply Kd.R_alloc | apply Kd.R_drewN | apply Kd.R_drew)); exact HO_179003.out) (by decide)) hk (fun _ h => h.2)) (fun _ h => h.1))
                  have n2_ := Aside0.mk (KeepBut.blk hk (g' := gb165) (o := .cells #[.int .u64 0, .int .u8 0, .slice none 0 0, .slice none 0 0] 26 (0, 0)) (by (with_reducible repeat (first | refine blk_drewN ?_ _ | refine blk_drew ?_ | refine blk_alloc ?_ _)); exact BK165.out) NB165_171.out (by simp))
                  have n3_ := Aside0.mk (KeepBut.blk hk (g' := gb178) (o := .cells #[.int .u64 t172, .int .u8 t175, u179002, u179003] 26 (0, 0)) (by (with_reducible repeat (first | refine blk_drewN ?_ _ | refine blk_drew ?_ | refine blk_alloc ?_ _)); exact BK178.out) NB178_171.out (by simp))
                  have n4_ := Aside0.mk (hb)
                  have n5_ := Aside0.mk (hi)
                  clear HO_179002
                  clear HO_179003
                  clear BK165
                  clear BK178
                  clear HB
                  clear HI171
                  have HO_179002 := n0_
                  have HO_179003 := n1_
                  have BK165 := n2_
                  have BK178 := n3_
                  have HB := n4_
                  have HI171 := n5_
                  clear n0_ n1_ n2_ n3_ n4_ n5_
                  (try clear hb)
                  (try clear hb2)
                  (try clear hk)
                  (try clear hi)
                  refine hK.out _ _ ⟨(blk_cell BK178.out 0).trans rfl, (blk_cell BK178.out 1).trans rfl, (blk_cell BK178.out 2).trans rfl, (blk_cell BK178.out 3).trans rfl⟩ (fun hHeld => ?_)
                  clear hK K
                  refine norm_ (a' := ?_) ?_ ?_
                  rotate_left
                  · show Act.put _ (some 53) _ = _
                    simp only [Act.put, List.setIfInBounds_toArray, List.set_cons_zero, List.set_cons_succ, i64_w, i32_w]
                    rfl
                  refine one_ (i := 4) (N := some 54) #[true, true, true, true, true, false, false, false] rfl rfl (one_of HT_.out (by kernel_rfl)) (by decide) (fun K hK => ?_)
                  refine value_ (w1 := ?_) (v := ?_) (by rfl) rfl ?_ ?_
                  rotate_left 2
                  · go_simp
                    constructor
                    · rfl
                    · rfl
                  refine hK.out _ _ ⟨(blk_cell (blk_alloc BK178.out _) 0).trans rfl, (blk_cell (blk_alloc BK178.out _) 1).trans rfl, (blk_cell (blk_alloc BK178.out _) 2).trans rfl, (blk_cell (blk_alloc BK178.out _) 3).trans rfl⟩ (fun hHeld => ?_)
                  clear hK K
                  refine norm_ (a' := ?_) ?_ ?_
                  rotate_left
                  · show Act.put _ (some 54) _ = _
                    simp only [Act.put, List.setIfInBounds_toArray, List.set_cons_zero, List.set_cons_succ, i64_w, i32_w]
                    rfl
                  refine one_ (i := 5) (N := some 55) #[true, true, true, true, true, true, false, false] rfl rfl (one_of HT_.out (by kernel_rfl)) (by decide) (fun K hK => ?_)
                  refine Kd.R_append_step (Kd.int .u64) (w0 := w) w.heap.size (by rfl) (.tmp 51) (.tmp 54) 24 22 (.int .u64 0) 8 rfl Tryz.underlying24 info22 rfl (by decide) (by omega) u179003 x179003_2 t195 [.int .u64 t195] (fun _ => True) (fun _ => False) rfl rfl ?aP (fun _ hk => hk.elim) ?aF ?aO ?aB ?aS ?aL ?_
                  (case aP => exact rfl)
                  (case aB => exact (by repeat (first | (with_reducible first | exact HB.out | apply below_alloc | apply pw_below_drewN | apply below_drew1 | refine below_set ?_ (IsS164.ge HI171.out) | refine below_set ?_ GE165.out | refine below_set ?_ GE178.out) | exact HB.out)))
                  (case aF => exact (fun _ _ => trivial))
                  (case aO => exact (by (with_reducible repeat (first | apply Kd.R_alloc | apply Kd.R_drewN | apply Kd.R_drew)); exact HO_179003.out))
                  (case aS => exact (below_size (by repeat (first | (with_reducible first | exact HB.out | apply below_alloc | apply pw_below_drewN | apply below_drew1 | refine below_set ?_ (IsS164.ge HI171.out) | refine below_set ?_ GE165.out | refine below_set ?_ GE178.out) | exact HB.out))))
                  (case aL => have := LMc42.out; omega)
                  intro v199 w45 ho hb hg hat
                  rw [← Ny198.out] at ho
                  have n0_ := Aside0.mk (Kd.R_over' (by (with_reducible repeat (first | apply Kd.R_alloc | apply Kd.R_drewN | apply Kd.R_drew)); exact HO_179002.out) (Kd.R_typed (by (with_reducible repeat (first | apply Kd.R_alloc | apply Kd.R_drewN | apply Kd.R_drew)); exact HO_179003.out)) (by decide) hg)
                  have n1_ := Aside0.mk (blk_grown (g := gb165) (o := .cells #[.int .u64 0, .int .u8 0, .slice none 0 0, .slice none 0 0] 26 (0, 0)) (by (with_reducible repeat (first | refine blk_drewN ?_ _ | refine blk_drew ?_ | refine blk_alloc ?_ _)); exact BK165.out) hg (Kd.R_ne HO_179003.out BK165.out (by decide)))
                  have n2_ := Aside0.mk (blk_grown (g := gb178) (o := .cells #[.int .u64 t172, .int .u8 t175, u179002, u179003] 26 (0, 0)) (by (with_reducible repeat (first | refine blk_drewN ?_ _ | refine blk_drew ?_ | refine blk_alloc ?_ _)); exact BK178.out) hg (Kd.R_ne HO_179003.out BK178.out (by decide)))
                  have n3_ := Aside0.mk (by first | exact IsS164.grown HI171.out hg (IsS164.own_ne HI171.out HO_179003.out (by decide)) | exact IsS164.grown (IsS164.far HI171.out NB171_165.out _) hg (IsS164.own_ne HI171.out HO_179003.out (by decide)) | exact IsS164.grown (IsS164.far HI171.out NB171_178.out _) hg (IsS164.own_ne HI171.out HO_179003.out (by decide)) | exact IsS164.grown (IsS164.far (IsS164.far HI171.out NB171_165.out _) NB171_165.out _) hg (IsS164.own_ne HI171.out HO_179003.out (by decide)) | exact IsS164.grown (IsS164.far (IsS164.far HI171.out NB171_165.out _) NB171_178.out _) hg (IsS164.own_ne HI171.out HO_179003.out (by decide)) | exact IsS164.grown (IsS164.far (IsS164.far HI171.out NB171_178.out _) NB171_165.out _) hg (IsS164.own_ne HI171.out HO_179003.out (by decide)) | exact IsS164.grown (IsS164.far (IsS164.far HI171.out NB171_178.out _) NB171_178.out _) hg (IsS164.own_ne HI171.out HO_179003.out (by decide)))
                  have n4_ := Aside0.mk (hb)
                  have n5_ := Aside0.mk (ho)
                  clear HO_179002
                  clear BK165
                  clear BK178
                  clear HI171
                  clear HB
                  clear HO_179003
                  have HO_179002 := n0_
                  have BK165 := n1_
                  have BK178 := n2_
                  have HI171 := n3_
                  have HB := n4_
                  have HO200 := n5_
                  clear n0_ n1_ n2_ n3_ n4_ n5_
                  clear ho hb hg hat
                  obtain ⟨Ao46, co46, eo46⟩ := Kd.R_slice HO200.out
                  (first | subst eo46 | (injection eo46 with f1_ f2_ f3_; have f4_ := f1_.symm; have f5_ := f3_.symm; clear f1_ f2_ f3_; subst f4_; subst f5_))
                  refine hK.out _ _ ⟨(blk_cell BK178.out 0).trans rfl, (blk_cell BK178.out 1).trans rfl, (blk_cell BK178.out 2).trans rfl, (blk_cell BK178.out 3).trans rfl⟩ (fun hHeld => ?_)
                  clear hK K
                  refine norm_ (a' := ?_) ?_ ?_
                  rotate_left
                  · show Act.put _ (some 55) _ = _
                    simp only [Act.put, List.setIfInBounds_toArray, List.set_cons_zero, List.set_cons_succ, i64_w, i32_w]
                    rfl
                  refine pure_ (i := 6) (N := some 56) (v := ?_) (a' := ?_) #[true, true, true, true, true, true, true, false] rfl rfl (any_of HT_.out (by kernel_rfl)) (fun _ _ _ h => h) (Or.inl ⟨by rfl, ?_⟩) ?_ ?_
                  rotate_left
                  · intro w'
                    go_simp
                    with_reducible rfl
                  rotate_left
                  · simp only [Act.put, List.setIfInBounds_toArray, List.set_cons_zero, List.set_cons_succ, i64_w, i32_w]
                    rfl
                  refine last_ (i := 7) (N := none) #[true, true, true, true, true, true, true, true] rfl rfl (one_of HT_.out (by kernel_rfl)) (by decide) (fun K hK => ?_)
                  have hs47 : w45.cell? ⟨gb178, 3, none⟩ = some (u179003) := (blk_cell BK178.out 3).trans rfl
                  have hfs47 := blk_frozen BK178.out 3
                  have hns47_0 := NB165_178.out
                  have hms47_0 := NB178_165.out
                  refine skip_ (w1 := ?_) (by rfl) rfl ?_ ?_
                  rotate_left
                  · go_simp
                    rfl
                  refine hK.out _ _ ?_
                  clear hK K
                  refine done_ (done_of HT_.out (by kernel_rfl)) ?_
                  try go_wp2
                  go_roundg k2
                  case measure => have := HK1.out; have := HK2.out; omega
                  case rel => exact ⟨((x48_2 + 1) % 256), (t196), (t197), (y198), (.slice Ao46 y198.length co46), (by first | rfl | (simp; done) | (simp [*]; done)), H', ⟨by have := HK1.out; have := HK2.out; omega⟩, ⟨by (with_reducible repeat (first | apply Kd.R_alloc | apply Kd.R_drewN | apply Kd.R_drew)); exact Kd.R_mono (Kd.R_far (p := ⟨gb178, 3, none⟩) (Kd.R_types HO_179002.out BK178.out (by decide)) (fun _ hk => hk.2) (.slice Ao46 y198.length co46)) (fun _ hk => trivial)⟩, ⟨by (with_reducible repeat (first | apply Kd.R_alloc | apply Kd.R_drewN | apply Kd.R_drew)); exact Kd.R_mono (Kd.R_far (p := ⟨gb178, 3, none⟩) (Kd.R_types HO200.out BK178.out (by decide)) (fun _ hk => hk.2) (.slice Ao46 y198.length co46)) (fun _ hk => trivial)⟩, ⟨by (with_reducible repeat (first | refine blk_drewN ?_ _ | refine blk_drew ?_ | refine blk_alloc ?_ _)); refine blk_far ?_ NB165_178.out _; (with_reducible repeat (first | refine blk_drewN ?_ _ | refine blk_drew ?_ | refine blk_alloc ?_ _)); exact BK165.out⟩, ⟨by (with_reducible repeat (first | refine blk_drewN ?_ _ | refine blk_drew ?_ | refine blk_alloc ?_ _)); refine blk_put (cs := #[.int .u64 t172, .int .u8 t175, u179002, u179003]) ?_ 3 _ rfl; (with_reducible repeat (first | refine blk_drewN ?_ _ | refine blk_drew ?_ | refine blk_alloc ?_ _)); exact BK178.out⟩, ⟨by repeat (first | (with_reducible first | exact HI171.out | apply IsS164.alloc | apply IsS164.drewN | apply IsS164.drew | apply IsS164.set_0 | apply IsS164.set_1 | refine IsS164.far ?_ NB171_165.out _ | refine IsS164.far ?_ NB171_178.out _) | exact HI171.out)⟩, ⟨by repeat (first | (with_reducible first | exact HB.out | apply below_alloc | apply pw_below_drewN | apply below_drew1 | refine below_set ?_ (IsS164.ge HI171.out) | refine below_set ?_ GE165.out | refine below_set ?_ GE178.out) | exact HB.out)⟩⟩
                · rw [if_neg c42] at H
                  exact absurd H (by simp)
              · rw [if_neg c40] at H
                have c40b0 : decide (x48_2 < ji38) = false := decide_eq_false c40
                clear c40
                by_cases c48 : t167 = (a0.size : Int)
                · rw [if_pos c48] at H
                  have c48b0 : (t167 == (a0.size : Int)) = true := beq_iff_eq.mpr c48
                  have c48b1 : (t167 != (a0.size : Int)) = false := bne_eq_false_iff_eq.mpr c48
                  clear c48
                  replace H := Option.bind_eq_some_iff.mp H
                  obtain ⟨⟨t201, t202, t203⟩, A490, H⟩ := H
                  replace H : (if t201 = 0 then ((codec_Reader_Rest.f t202 t203).bind fun bt204 => (if bt204.1.toList = ([] : List UInt8) then ((manifest_Check.f k2 t172 t175 x179002_1 x179003_2).bind fun t207 => (if t207 = 0 then (some (t172, t175, x179002_1, x179003_2, 0)) else (some (0, 0, ([] : List (S29)), ([] : List Int), 4)))) else (some (0, 0, ([] : List (S29)), ([] : List Int), 4)))) else (some (0, 0, ([] : List (S29)), ([] : List Int), 4))) = some (r1, r2, r3, r4, r5) := H
                  have A49 := Aside0.mk A490
                  clear A490
                  by_cases c50 : t201 = 0
                  · rw [if_pos c50] at H
                    have c50b0 : (t201 == 0) = true := beq_iff_eq.mpr c50
                    have c50b1 : (t201 != 0) = false := bne_eq_false_iff_eq.mpr c50
                    clear c50
                    replace H := Option.bind_eq_some_iff.mp H
                    obtain ⟨⟨t204, t205, t206⟩, A510, H⟩ := H
                    replace H : (if t204.toList = ([] : List UInt8) then ((manifest_Check.f k2 t172 t175 x179002_1 x179003_2).bind fun t207 => (if t207 = 0 then (some (t172, t175, x179002_1, x179003_2, 0)) else (some (0, 0, ([] : List (S29)), ([] : List Int), 4)))) else (some (0, 0, ([] : List (S29)), ([] : List Int), 4))) = some (r1, r2, r3, r4, r5) := H
                    have A51 := Aside0.mk A510
                    clear A510
                    by_cases c52 : t204.toList = ([] : List UInt8)
                    · rw [if_pos c52] at H
                      have c52b0 : (t204.toList == ([] : List UInt8)) = true := beq_iff_eq.mpr c52
                      have c52b1 : (t204.toList != ([] : List UInt8)) = false := bne_eq_false_iff_eq.mpr c52
                      clear c52
                      replace H := Option.bind_eq_some_iff.mp H
                      obtain ⟨t207, A530, H⟩ := H
                      replace H : (if t207 = 0 then (some (t172, t175, x179002_1, x179003_2, 0)) else (some (0, 0, ([] : List (S29)), ([] : List Int), 4))) = some (r1, r2, r3, r4, r5) := H
                      have A53 := Aside0.mk A530
                      clear A530
                      by_cases c54 : t207 = 0
                      · rw [if_pos c54] at H
                        have c54b0 : (t207 == 0) = true := beq_iff_eq.mpr c54
                        have c54b1 : (t207 != 0) = false := bne_eq_false_iff_eq.mpr c54
                        clear c54
                        simp only [Option.some.injEq, Prod.mk.injEq] at H
                        obtain ⟨rfl, rfl, rfl, rfl, rfl⟩ := H
                        go_wp2_with (first | (go_at_call 44; (with_reducible refine (codec_Reader_Err.calls g171 x172000_2 x172001_2 t201 t202 t203 w _ ?side1 ?side2 A49.out).mono ?_); (case side1 => repeat (first | (with_reducible first | exact HI171.out | apply IsS164.alloc | apply IsS164.drewN | apply IsS164.drew | apply IsS164.set_0 | apply IsS164.set_1 | refine IsS164.far ?_ NB171_165.out _ | refine IsS164.far ?_ NB171_178.out _) | exact HI171.out)); (case side2 => repeat (first | (with_reducible first | exact HB.out | apply below_alloc | apply pw_below_drewN | apply below_drew1 | refine below_set ?_ (IsS164.ge HI171.out) | refine below_set ?_ GE165.out | refine below_set ?_ GE178.out) | exact HB.out)); rintro e w55 ⟨rfl, hi, hb, hk⟩; have n0_ := Aside0.mk (Kd.R_mono (Kd.R_keep (IsS164.apart (show IsS164 w _ g171 x172000_2 x172001_2 from by repeat (first | (with_reducible first | exact HI171.out | apply IsS164.alloc | apply IsS164.drewN | apply IsS164.drew | apply IsS164.set_0 | apply IsS164.set_1 | refine IsS164.far ?_ NB171_165.out _ | refine IsS164.far ?_ NB171_178.out _) | exact HI171.out)) (by (with_reducible repeat (first | apply Kd.R_alloc | apply Kd.R_drewN | apply Kd.R_drew)); exact HO_179002.out) (by decide)) hk (fun _ h => h.2)) (fun _ h => h.1)); have n1_ := Aside0.mk (Kd.R_mono (Kd.R_keep (IsS164.apart (show IsS164 w _ g171 x172000_2 x172001_2 from by repeat (first | (with_reducible first | exact HI171.out | apply IsS164.alloc | apply IsS164.drewN | apply IsS164.drew | apply IsS164.set_0 | apply IsS164.set_1 | refine IsS164.far ?_ NB171_165.out _ | refine IsS164.far ?_ NB171_178.out _) | exact HI171.out)) (by (with_reducible repeat (first | apply Kd.R_alloc | apply Kd.R_drewN | apply Kd.R_drew)); exact HO_179003.out) (by decide)) hk (fun _ h => h.2)) (fun _ h => h.1)); have n2_ := Aside0.mk (KeepBut.blk hk (g' := gb165) (o := .cells #[.int .u64 0, .int .u8 0, .slice none 0 0, .slice none 0 0] 26 (0, 0)) (by (with_reducible repeat (first | refine blk_drewN ?_ _ | refine blk_drew ?_ | refine blk_alloc ?_ _)); exact BK165.out) NB165_171.out (by simp)); have n3_ := Aside0.mk (KeepBut.blk hk (g' := gb178) (o := .cells #[.int .u64 t172, .int .u8 t175, u179002, u179003] 26 (0, 0)) (by (with_reducible repeat (first | refine blk_drewN ?_ _ | refine blk_drew ?_ | refine blk_alloc ?_ _)); exact BK178.out) NB178_171.out (by simp)); have n4_ := Aside0.mk (hb); have n5_ := Aside0.mk (hi); clear HO_179002; clear HO_179003; clear BK165; clear BK178; clear HB; clear HI171; have HO_179002 := n0_; have HO_179003 := n1_; have BK165 := n2_; have BK178 := n3_; have HB := n4_; have HI171 := n5_; clear n0_ n1_ n2_ n3_ n4_ n5_; (try clear hb); (try clear hb2); (try clear hk); (try clear hi)) | (go_at_call 45; (with_reducible refine (codec_Reader_Rest.calls g171 t202 t203 t204 t205 t206 w _ ?side1 ?side2 A51.out).mono ?_); (case side1 => repeat (first | (with_reducible first | exact HI171.out | apply IsS164.alloc | apply IsS164.drewN | apply IsS164.drew | apply IsS164.set_0 | apply IsS164.set_1 | refine IsS164.far ?_ NB171_165.out _ | refine IsS164.far ?_ NB171_178.out _) | exact HI171.out)); (case side2 => repeat (first | (with_reducible first | exact HB.out | apply below_alloc | apply pw_below_drewN | apply below_drew1 | refine below_set ?_ (IsS164.ge HI171.out) | refine below_set ?_ GE165.out | refine below_set ?_ GE178.out) | exact HB.out)); rintro e w56 ⟨rfl, hi, hb, hk⟩; have n0_ := Aside0.mk (Kd.R_mono (Kd.R_keep (IsS164.apart (show IsS164 w _ g171 t202 t203 from by repeat (first | (with_reducible first | exact HI171.out | apply IsS164.alloc | apply IsS164.drewN | apply IsS164.drew | apply IsS164.set_0 | apply IsS164.set_1 | refine IsS164.far ?_ NB171_165.out _ | refine IsS164.far ?_ NB171_178.out _) | exact HI171.out)) (by (with_reducible repeat (first | apply Kd.R_alloc | apply Kd.R_drewN | apply Kd.R_drew)); exact HO_179002.out) (by decide)) hk (fun _ h => h.2)) (fun _ h => h.1)); have n1_ := Aside0.mk (Kd.R_mono (Kd.R_keep (IsS164.apart (show IsS164 w _ g171 t202 t203 from by repeat (first | (with_reducible first | exact HI171.out | apply IsS164.alloc | apply IsS164.drewN | apply IsS164.drew | apply IsS164.set_0 | apply IsS164.set_1 | refine IsS164.far ?_ NB171_165.out _ | refine IsS164.far ?_ NB171_178.out _) | exact HI171.out)) (by (with_reducible repeat (first | apply Kd.R_alloc | apply Kd.R_drewN | apply Kd.R_drew)); exact HO_179003.out) (by decide)) hk (fun _ h => h.2)) (fun _ h => h.1)); have n2_ := Aside0.mk (KeepBut.blk hk (g' := gb165) (o := .cells #[.int .u64 0, .int .u8 0, .slice none 0 0, .slice none 0 0] 26 (0, 0)) (by (with_reducible repeat (first | refine blk_drewN ?_ _ | refine blk_drew ?_ | refine blk_alloc ?_ _)); exact BK165.out) NB165_171.out (by simp)); have n3_ := Aside0.mk (KeepBut.blk hk (g' := gb178) (o := .cells #[.int .u64 t172, .int .u8 t175, u179002, u179003] 26 (0, 0)) (by (with_reducible repeat (first | refine blk_drewN ?_ _ | refine blk_drew ?_ | refine blk_alloc ?_ _)); exact BK178.out) NB178_171.out (by simp)); have n4_ := Aside0.mk (hb); have n5_ := Aside0.mk (hi); clear HO_179002; clear HO_179003; clear BK165; clear BK178; clear HB; clear HI171; have HO_179002 := n0_; have HO_179003 := n1_; have BK165 := n2_; have BK178 := n3_; have HB := n4_; have HI171 := n5_; clear n0_ n1_ n2_ n3_ n4_ n5_; (try clear hb); (try clear hb2); (try clear hk); (try clear hi); have hnb57 := NB178_165.out; have hnc57 := NB165_178.out; have hnb58 := NB178_171.out; have hnc58 := NB171_178.out; have hcz59_0 : w56.cell? ⟨gb178, 0, none⟩ = some (.int .u64 t172) := (blk_cell BK178.out 0).trans rfl; have hcz59_1 : w56.cell? ⟨gb178, 1, none⟩ = some (.int .u8 t175) := (blk_cell BK178.out 1).trans rfl; have hcz59_2 : w56.cell? ⟨gb178, 2, none⟩ = some (u179002) := (blk_cell BK178.out 2).trans rfl; have hcz59_3 : w56.cell? ⟨gb178, 3, none⟩ = some (u179003) := (blk_cell BK178.out 3).trans rfl; have hfz59_0 := blk_frozen BK178.out 0; have hfz59_1 := blk_frozen BK178.out 1; have hfz59_2 := blk_frozen BK178.out 2; have hfz59_3 := blk_frozen BK178.out 3; obtain ⟨Ao60, co60, eo60⟩ := Kd.R_slice HO_179002.out; subst eo60; obtain ⟨Ao61, co61, eo61⟩ := Kd.R_slice HO_179003.out; subst eo61) | (go_at_call 8; (with_reducible refine (manifest_Check.calls k2 t172 t175 _ _ x179002_1 _ _ x179003_2 t207 _ ?side1 ?side2 ?side3 ?side4 A53.out).mono ?_); (case side1 => repeat (first | exact (Kd.R_reads' HO_179002.out).2.2 | (with_reducible refine Kd.C_alloc ?_ _) | (with_reducible refine Kd.C_drewN ?_ _) | (with_reducible refine Kd.C_drew ?_))); (case side2 => exact (Kd.R_reads' HO_179002.out).2.1); (case side3 => repeat (first | exact (Kd.R_reads' HO_179003.out).2.2 | (with_reducible refine Kd.C_alloc ?_ _) | (with_reducible refine Kd.C_drewN ?_ _) | (with_reducible refine Kd.C_drew ?_))); (case side4 => exact (Kd.R_reads' HO_179003.out).2.1); rintro e w62 ⟨rfl, hb⟩; have n0_ := Aside0.mk (Kd.R_below (by (with_reducible repeat (first | apply Kd.R_alloc | apply Kd.R_drewN | apply Kd.R_drew)); exact HO_179002.out) hb); have n1_ := Aside0.mk (Kd.R_below (by (with_reducible repeat (first | apply Kd.R_alloc | apply Kd.R_drewN | apply Kd.R_drew)); exact HO_179003.out) hb); have n2_ := Aside0.mk (blk_below (g := gb165) (o := .cells #[.int .u64 0, .int .u8 0, .slice none 0 0, .slice none 0 0] 26 (0, 0)) (by (with_reducible repeat (first | refine blk_drewN ?_ _ | refine blk_drew ?_ | refine blk_alloc ?_ _)); exact BK165.out) hb); have n3_ := Aside0.mk (blk_below (g := gb178) (o := .cells #[.int .u64 t172, .int .u8 t175, .slice Ao60 x179002_1.length co60, .slice Ao61 x179003_2.length co61] 26 (0, 0)) (by (with_reducible repeat (first | refine blk_drewN ?_ _ | refine blk_drew ?_ | refine blk_alloc ?_ _)); exact BK178.out) hb); have n4_ := Aside0.mk (IsS164.below (by repeat (first | (with_reducible first | exact HI171.out | apply IsS164.alloc | apply IsS164.drewN | apply IsS164.drew | apply IsS164.set_0 | apply IsS164.set_1 | refine IsS164.far ?_ NB171_165.out _ | refine IsS164.far ?_ NB171_178.out _) | exact HI171.out)) hb); have n5_ := Aside0.mk (below_step (by repeat (first | (with_reducible first | exact HB.out | apply below_alloc | apply pw_below_drewN | apply below_drew1 | refine below_set ?_ (IsS164.ge HI171.out) | refine below_set ?_ GE165.out | refine below_set ?_ GE178.out) | exact HB.out)) hb); clear HO_179002; clear HO_179003; clear BK165; clear BK178; clear HI171; clear HB; have HO_179002 := n0_; have HO_179003 := n1_; have BK165 := n2_; have BK178 := n3_; have HI171 := n4_; have HB := n5_; clear n0_ n1_ n2_ n3_ n4_ n5_; (try clear hb); (try clear hb2); (try clear hk); (try clear hi); have hcz63_0 : w62.cell? ⟨gb178, 0, none⟩ = some (.int .u64 t172) := (blk_cell BK178.out 0).trans rfl; have hcz63_1 : w62.cell? ⟨gb178, 1, none⟩ = some (.int .u8 t175) := (blk_cell BK178.out 1).trans rfl; have hcz63_2 : w62.cell? ⟨gb178, 2, none⟩ = some (.slice Ao60 x179002_1.length co60) := (blk_cell BK178.out 2).trans rfl; have hcz63_3 : w62.cell? ⟨gb178, 3, none⟩ = some (.slice Ao61 x179003_2.length co61) := (blk_cell BK178.out 3).trans rfl; have hfz63_0 := blk_frozen BK178.out 0; have hfz63_1 := blk_frozen BK178.out 1; have hfz63_2 := blk_frozen BK178.out 2; have hfz63_3 := blk_frozen BK178.out 3; have hnb64 := NB165_171.out; have hnc64 := NB171_165.out; have hcz65_0 : w62.cell? ⟨gb165, 0, none⟩ = some (.int .u64 0) := (blk_cell BK165.out 0).trans rfl; have hcz65_1 : w62.cell? ⟨gb165, 1, none⟩ = some (.int .u8 0) := (blk_cell BK165.out 1).trans rfl; have hcz65_2 : w62.cell? ⟨gb165, 2, none⟩ = some (.slice none 0 0) := (blk_cell BK165.out 2).trans rfl; have hcz65_3 : w62.cell? ⟨gb165, 3, none⟩ = some (.slice none 0 0) := (blk_cell BK165.out 3).trans rfl; have hfz65_0 := blk_frozen BK165.out 0; have hfz65_1 := blk_frozen BK165.out 1; have hfz65_2 := blk_frozen BK165.out 2; have hfz65_3 := blk_frozen BK165.out 3))
                        refine bodyPost_ret (results_ct rfl _ _ gb165 26 #[.int .u64 t172, .int .u8 t175, .slice Ao60 x179002_1.length co60, .slice Ao61 x179003_2.length co61] (0, 0) _ rfl (by (with_reducible repeat (first | refine blk_drewN ?_ _ | refine blk_drew ?_ | refine blk_alloc ?_ _)); refine blk_put (cs := #[.int .u64 t172, .int .u8 t175, .slice Ao60 x179002_1.length co60, .slice none 0 0]) ?_ 3 _ rfl; (with_reducible repeat (first | refine blk_drewN ?_ _ | refine blk_drew ?_ | refine blk_alloc ?_ _)); refine blk_put (cs := #[.int .u64 t172, .int .u8 t175, .slice none 0 0, .slice none 0 0]) ?_ 2 _ rfl; (with_reducible repeat (first | refine blk_drewN ?_ _ | refine blk_drew ?_ | refine blk_alloc ?_ _)); refine blk_put (cs := #[.int .u64 t172, .int .u8 0, .slice none 0 0, .slice none 0 0]) ?_ 1 _ rfl; (with_reducible repeat (first | refine blk_drewN ?_ _ | refine blk_drew ?_ | refine blk_alloc ?_ _)); refine blk_put (cs := #[.int .u64 0, .int .u8 0, .slice none 0 0, .slice none 0 0]) ?_ 0 _ rfl; (with_reducible repeat (first | refine blk_drewN ?_ _ | refine blk_drew ?_ | refine blk_alloc ?_ _)); exact BK165.out) Tryz.underlying26 rfl (by kernel_rfl)) rfl ?_
                        exact ⟨_, _, by first | rfl | (simp [errW_none, errW_some] <;> rfl) | (simp only [← hji8, ← hji38]; first | rfl | (simp [errW_none, errW_some] <;> rfl)) | (simp [*, errW_none, errW_some] <;> rfl), by (with_reducible repeat (first | apply Kd.R_alloc | apply Kd.R_drewN | apply Kd.R_drew)); exact Kd.R_mono (Kd.R_far (p := ⟨gb165, 3, none⟩) (Kd.R_far (p := ⟨gb165, 2, none⟩) (Kd.R_far (p := ⟨gb165, 1, none⟩) (Kd.R_far (p := ⟨gb165, 0, none⟩) (Kd.R_types HO_179002.out BK165.out (by decide)) (fun _ hk => hk.2) (.int .u64 t172)) (fun _ hk => hk.2) (.int .u8 t175)) (fun _ hk => hk.2) (.slice Ao60 x179002_1.length co60)) (fun _ hk => hk.2) (.slice Ao61 x179003_2.length co61)) (fun _ hk => trivial), by (with_reducible repeat (first | apply Kd.R_alloc | apply Kd.R_drewN | apply Kd.R_drew)); exact Kd.R_mono (Kd.R_far (p := ⟨gb165, 3, none⟩) (Kd.R_far (p := ⟨gb165, 2, none⟩) (Kd.R_far (p := ⟨gb165, 1, none⟩) (Kd.R_far (p := ⟨gb165, 0, none⟩) (Kd.R_types HO_179003.out BK165.out (by decide)) (fun _ hk => hk.2) (.int .u64 t172)) (fun _ hk => hk.2) (.int .u8 t175)) (fun _ hk => hk.2) (.slice Ao60 x179002_1.length co60)) (fun _ hk => hk.2) (.slice Ao61 x179003_2.length co61)) (fun _ hk => trivial), by repeat (first | (with_reducible first | exact HB.out | apply below_alloc | apply pw_below_drewN | apply below_drew1 | refine below_set ?_ (IsS164.ge HI171.out) | refine below_set ?_ GE165.out | refine below_set ?_ GE178.out) | exact HB.out)⟩
                      · rw [if_neg c54] at H
                        have c54b0 : (t207 == 0) = false := beq_eq_false_iff_ne.mpr c54
                        have c54b1 : (t207 != 0) = true := bne_iff_ne.mpr c54
                        simp only [Option.some.injEq, Prod.mk.injEq] at H
                        obtain ⟨rfl, rfl, rfl, rfl, rfl⟩ := H
                        go_wp2_with (first | (go_at_call 44; (with_reducible refine (codec_Reader_Err.calls g171 x172000_2 x172001_2 t201 t202 t203 w _ ?side1 ?side2 A49.out).mono ?_); (case side1 => repeat (first | (with_reducible first | exact HI171.out | apply IsS164.alloc | apply IsS164.drewN | apply IsS164.drew | apply IsS164.set_0 | apply IsS164.set_1 | refine IsS164.far ?_ NB171_165.out _ | refine IsS164.far ?_ NB171_178.out _) | exact HI171.out)); (case side2 => repeat (first | (with_reducible first | exact HB.out | apply below_alloc | apply pw_below_drewN | apply below_drew1 | refine below_set ?_ (IsS164.ge HI171.out) | refine below_set ?_ GE165.out | refine below_set ?_ GE178.out) | exact HB.out)); rintro e w66 ⟨rfl, hi, hb, hk⟩; have n0_ := Aside0.mk (Kd.R_mono (Kd.R_keep (IsS164.apart (show IsS164 w _ g171 x172000_2 x172001_2 from by repeat (first | (with_reducible first | exact HI171.out | apply IsS164.alloc | apply IsS164.drewN | apply IsS164.drew | apply IsS164.set_0 | apply IsS164.set_1 | refine IsS164.far ?_ NB171_165.out _ | refine IsS164.far ?_ NB171_178.out _) | exact HI171.out)) (by (with_reducible repeat (first | apply Kd.R_alloc | apply Kd.R_drewN | apply Kd.R_drew)); exact HO_179002.out) (by decide)) hk (fun _ h => h.2)) (fun _ h => h.1)); have n1_ := Aside0.mk (Kd.R_mono (Kd.R_keep (IsS164.apart (show IsS164 w _ g171 x172000_2 x172001_2 from by repeat (first | (with_reducible first | exact HI171.out | apply IsS164.alloc | apply IsS164.drewN | apply IsS164.drew | apply IsS164.set_0 | apply IsS164.set_1 | refine IsS164.far ?_ NB171_165.out _ | refine IsS164.far ?_ NB171_178.out _) | exact HI171.out)) (by (with_reducible repeat (first | apply Kd.R_alloc | apply Kd.R_drewN | apply Kd.R_drew)); exact HO_179003.out) (by decide)) hk (fun _ h => h.2)) (fun _ h => h.1)); have n2_ := Aside0.mk (KeepBut.blk hk (g' := gb165) (o := .cells #[.int .u64 0, .int .u8 0, .slice none 0 0, .slice none 0 0] 26 (0, 0)) (by (with_reducible repeat (first | refine blk_drewN ?_ _ | refine blk_drew ?_ | refine blk_alloc ?_ _)); exact BK165.out) NB165_171.out (by simp)); have n3_ := Aside0.mk (KeepBut.blk hk (g' := gb178) (o := .cells #[.int .u64 t172, .int .u8 t175, u179002, u179003] 26 (0, 0)) (by (with_reducible repeat (first | refine blk_drewN ?_ _ | refine blk_drew ?_ | refine blk_alloc ?_ _)); exact BK178.out) NB178_171.out (by simp)); have n4_ := Aside0.mk (hb); have n5_ := Aside0.mk (hi); clear HO_179002; clear HO_179003; clear BK165; clear BK178; clear HB; clear HI171; have HO_179002 := n0_; have HO_179003 := n1_; have BK165 := n2_; have BK178 := n3_; have HB := n4_; have HI171 := n5_; clear n0_ n1_ n2_ n3_ n4_ n5_; (try clear hb); (try clear hb2); (try clear hk); (try clear hi)) | (go_at_call 45; (with_reducible refine (codec_Reader_Rest.calls g171 t202 t203 t204 t205 t206 w _ ?side1 ?side2 A51.out).mono ?_); (case side1 => repeat (first | (with_reducible first | exact HI171.out | apply IsS164.alloc | apply IsS164.drewN | apply IsS164.drew | apply IsS164.set_0 | apply IsS164.set_1 | refine IsS164.far ?_ NB171_165.out _ | refine IsS164.far ?_ NB171_178.out _) | exact HI171.out)); (case side2 => repeat (first | (with_reducible first | exact HB.out | apply below_alloc | apply pw_below_drewN | apply below_drew1 | refine below_set ?_ (IsS164.ge HI171.out) | refine below_set ?_ GE165.out | refine below_set ?_ GE178.out) | exact HB.out)); rintro e w67 ⟨rfl, hi, hb, hk⟩; have n0_ := Aside0.mk (Kd.R_mono (Kd.R_keep (IsS164.apart (show IsS164 w _ g171 t202 t203 from by repeat (first | (with_reducible first | exact HI171.out | apply IsS164.alloc | apply IsS164.drewN | apply IsS164.drew | apply IsS164.set_0 | apply IsS164.set_1 | refine IsS164.far ?_ NB171_165.out _ | refine IsS164.far ?_ NB171_178.out _) | exact HI171.out)) (by (with_reducible repeat (first | apply Kd.R_alloc | apply Kd.R_drewN | apply Kd.R_drew)); exact HO_179002.out) (by decide)) hk (fun _ h => h.2)) (fun _ h => h.1)); have n1_ := Aside0.mk (Kd.R_mono (Kd.R_keep (IsS164.apart (show IsS164 w _ g171 t202 t203 from by repeat (first | (with_reducible first | exact HI171.out | apply IsS164.alloc | apply IsS164.drewN | apply IsS164.drew | apply IsS164.set_0 | apply IsS164.set_1 | refine IsS164.far ?_ NB171_165.out _ | refine IsS164.far ?_ NB171_178.out _) | exact HI171.out)) (by (with_reducible repeat (first | apply Kd.R_alloc | apply Kd.R_drewN | apply Kd.R_drew)); exact HO_179003.out) (by decide)) hk (fun _ h => h.2)) (fun _ h => h.1)); have n2_ := Aside0.mk (KeepBut.blk hk (g' := gb165) (o := .cells #[.int .u64 0, .int .u8 0, .slice none 0 0, .slice none 0 0] 26 (0, 0)) (by (with_reducible repeat (first | refine blk_drewN ?_ _ | refine blk_drew ?_ | refine blk_alloc ?_ _)); exact BK165.out) NB165_171.out (by simp)); have n3_ := Aside0.mk (KeepBut.blk hk (g' := gb178) (o := .cells #[.int .u64 t172, .int .u8 t175, u179002, u179003] 26 (0, 0)) (by (with_reducible repeat (first | refine blk_drewN ?_ _ | refine blk_drew ?_ | refine blk_alloc ?_ _)); exact BK178.out) NB178_171.out (by simp)); have n4_ := Aside0.mk (hb); have n5_ := Aside0.mk (hi); clear HO_179002; clear HO_179003; clear BK165; clear BK178; clear HB; clear HI171; have HO_179002 := n0_; have HO_179003 := n1_; have BK165 := n2_; have BK178 := n3_; have HB := n4_; have HI171 := n5_; clear n0_ n1_ n2_ n3_ n4_ n5_; (try clear hb); (try clear hb2); (try clear hk); (try clear hi); have hnb68 := NB178_165.out; have hnc68 := NB165_178.out; have hnb69 := NB178_171.out; have hnc69 := NB171_178.out; have hcz70_0 : w67.cell? ⟨gb178, 0, none⟩ = some (.int .u64 t172) := (blk_cell BK178.out 0).trans rfl; have hcz70_1 : w67.cell? ⟨gb178, 1, none⟩ = some (.int .u8 t175) := (blk_cell BK178.out 1).trans rfl; have hcz70_2 : w67.cell? ⟨gb178, 2, none⟩ = some (u179002) := (blk_cell BK178.out 2).trans rfl; have hcz70_3 : w67.cell? ⟨gb178, 3, none⟩ = some (u179003) := (blk_cell BK178.out 3).trans rfl; have hfz70_0 := blk_frozen BK178.out 0; have hfz70_1 := blk_frozen BK178.out 1; have hfz70_2 := blk_frozen BK178.out 2; have hfz70_3 := blk_frozen BK178.out 3; obtain ⟨Ao71, co71, eo71⟩ := Kd.R_slice HO_179002.out; subst eo71; obtain ⟨Ao72, co72, eo72⟩ := Kd.R_slice HO_179003.out; subst eo72) | (go_at_call 8; (with_reducible refine (manifest_Check.calls k2 t172 t175 _ _ x179002_1 _ _ x179003_2 t207 _ ?side1 ?side2 ?side3 ?side4 A53.out).mono ?_); (case side1 => repeat (first | exact (Kd.R_reads' HO_179002.out).2.2 | (with_reducible refine Kd.C_alloc ?_ _) | (with_reducible refine Kd.C_drewN ?_ _) | (with_reducible refine Kd.C_drew ?_))); (case side2 => exact (Kd.R_reads' HO_179002.out).2.1); (case side3 => repeat (first | exact (Kd.R_reads' HO_179003.out).2.2 | (with_reducible refine Kd.C_alloc ?_ _) | (with_reducible refine Kd.C_drewN ?_ _) | (with_reducible refine Kd.C_drew ?_))); (case side4 => exact (Kd.R_reads' HO_179003.out).2.1); rintro e w73 ⟨rfl, hb⟩; have n0_ := Aside0.mk (Kd.R_below (by (with_reducible repeat (first | apply Kd.R_alloc | apply Kd.R_drewN | apply Kd.R_drew)); exact HO_179002.out) hb); have n1_ := Aside0.mk (Kd.R_below (by (with_reducible repeat (first | apply Kd.R_alloc | apply Kd.R_drewN | apply Kd.R_drew)); exact HO_179003.out) hb); have n2_ := Aside0.mk (blk_below (g := gb165) (o := .cells #[.int .u64 0, .int .u8 0, .slice none 0 0, .slice none 0 0] 26 (0, 0)) (by (with_reducible repeat (first | refine blk_drewN ?_ _ | refine blk_drew ?_ | refine blk_alloc ?_ _)); exact BK165.out) hb); have n3_ := Aside0.mk (blk_below (g := gb178) (o := .cells #[.int .u64 t172, .int .u8 t175, .slice Ao71 x179002_1.length co71, .slice Ao72 x179003_2.length co72] 26 (0, 0)) (by (with_reducible repeat (first | refine blk_drewN ?_ _ | refine blk_drew ?_ | refine blk_alloc ?_ _)); exact BK178.out) hb); have n4_ := Aside0.mk (IsS164.below (by repeat (first | (with_reducible first | exact HI171.out | apply IsS164.alloc | apply IsS164.drewN | apply IsS164.drew | apply IsS164.set_0 | apply IsS164.set_1 | refine IsS164.far ?_ NB171_165.out _ | refine IsS164.far ?_ NB171_178.out _) | exact HI171.out)) hb); have n5_ := Aside0.mk (below_step (by repeat (first | (with_reducible first | exact HB.out | apply below_alloc | apply pw_below_drewN | apply below_drew1 | refine below_set ?_ (IsS164.ge HI171.out) | refine below_set ?_ GE165.out | refine below_set ?_ GE178.out) | exact HB.out)) hb); clear HO_179002; clear HO_179003; clear BK165; clear BK178; clear HI171; clear HB; have HO_179002 := n0_; have HO_179003 := n1_; have BK165 := n2_; have BK178 := n3_; have HI171 := n4_; have HB := n5_; clear n0_ n1_ n2_ n3_ n4_ n5_; (try clear hb); (try clear hb2); (try clear hk); (try clear hi); have hnb74 := NB165_171.out; have hnc74 := NB171_165.out; have hcz75_0 : w73.cell? ⟨gb165, 0, none⟩ = some (.int .u64 0) := (blk_cell BK165.out 0).trans rfl; have hcz75_1 : w73.cell? ⟨gb165, 1, none⟩ = some (.int .u8 0) := (blk_cell BK165.out 1).trans rfl; have hcz75_2 : w73.cell? ⟨gb165, 2, none⟩ = some (.slice none 0 0) := (blk_cell BK165.out 2).trans rfl; have hcz75_3 : w73.cell? ⟨gb165, 3, none⟩ = some (.slice none 0 0) := (blk_cell BK165.out 3).trans rfl; have hfz75_0 := blk_frozen BK165.out 0; have hfz75_1 := blk_frozen BK165.out 1; have hfz75_2 := blk_frozen BK165.out 2; have hfz75_3 := blk_frozen BK165.out 3))
                        refine bodyPost_ret (results_ct rfl _ _ gb165 26 #[.int .u64 0, .int .u8 0, .slice none 0 0, .slice none 0 0] (0, 0) _ rfl (by (with_reducible repeat (first | refine blk_drewN ?_ _ | refine blk_drew ?_ | refine blk_alloc ?_ _)); refine blk_put (cs := #[.int .u64 0, .int .u8 0, .slice none 0 0, .slice none 0 0]) ?_ 3 _ rfl; (with_reducible repeat (first | refine blk_drewN ?_ _ | refine blk_drew ?_ | refine blk_alloc ?_ _)); refine blk_put (cs := #[.int .u64 0, .int .u8 0, .slice none 0 0, .slice none 0 0]) ?_ 2 _ rfl; (with_reducible repeat (first | refine blk_drewN ?_ _ | refine blk_drew ?_ | refine blk_alloc ?_ _)); refine blk_put (cs := #[.int .u64 0, .int .u8 0, .slice none 0 0, .slice none 0 0]) ?_ 1 _ rfl; (with_reducible repeat (first | refine blk_drewN ?_ _ | refine blk_drew ?_ | refine blk_alloc ?_ _)); refine blk_put (cs := #[.int .u64 0, .int .u8 0, .slice none 0 0, .slice none 0 0]) ?_ 0 _ rfl; (with_reducible repeat (first | refine blk_drewN ?_ _ | refine blk_drew ?_ | refine blk_alloc ?_ _)); exact BK165.out) Tryz.underlying26 rfl (by kernel_rfl)) rfl ?_
                        exact ⟨_, _, by first | rfl | (simp [errW_none, errW_some] <;> rfl) | (simp only [← hji8, ← hji38]; first | rfl | (simp [errW_none, errW_some] <;> rfl)) | (simp [*, errW_none, errW_some] <;> rfl), by first | exact Kd.R_nil _ _ _ _ _ | exact Kd.N_nil _ _ _ _ _ | exact Kd.V_nil _ _ _ _ _ | exact Kd.Q_nil _ _ _ _ _ | exact Kd.S_nil _ _ _ _ _, by first | exact Kd.R_nil _ _ _ _ _ | exact Kd.N_nil _ _ _ _ _ | exact Kd.V_nil _ _ _ _ _ | exact Kd.Q_nil _ _ _ _ _ | exact Kd.S_nil _ _ _ _ _, by repeat (first | (with_reducible first | exact HB.out | apply below_alloc | apply pw_below_drewN | apply below_drew1 | refine below_set ?_ (IsS164.ge HI171.out) | refine below_set ?_ GE165.out | refine below_set ?_ GE178.out) | exact HB.out)⟩
                    · rw [if_neg c52] at H
                      have c52b0 : (t204.toList == ([] : List UInt8)) = false := beq_eq_false_iff_ne.mpr c52
                      have c52b1 : (t204.toList != ([] : List UInt8)) = true := bne_iff_ne.mpr c52
                      simp only [Option.some.injEq, Prod.mk.injEq] at H
                      obtain ⟨rfl, rfl, rfl, rfl, rfl⟩ := H
                      go_wp2_with (first | (go_at_call 44; (with_reducible refine (codec_Reader_Err.calls g171 x172000_2 x172001_2 t201 t202 t203 w _ ?side1 ?side2 A49.out).mono ?_); (case side1 => repeat (first | (with_reducible first | exact HI171.out | apply IsS164.alloc | apply IsS164.drewN | apply IsS164.drew | apply IsS164.set_0 | apply IsS164.set_1 | refine IsS164.far ?_ NB171_165.out _ | refine IsS164.far ?_ NB171_178.out _) | exact HI171.out)); (case side2 => repeat (first | (with_reducible first | exact HB.out | apply below_alloc | apply pw_below_drewN | apply below_drew1 | refine below_set ?_ (IsS164.ge HI171.out) | refine below_set ?_ GE165.out | refine below_set ?_ GE178.out) | exact HB.out)); rintro e w76 ⟨rfl, hi, hb, hk⟩; have n0_ := Aside0.mk (Kd.R_mono (Kd.R_keep (IsS164.apart (show IsS164 w _ g171 x172000_2 x172001_2 from by repeat (first | (with_reducible first | exact HI171.out | apply IsS164.alloc | apply IsS164.drewN | apply IsS164.drew | apply IsS164.set_0 | apply IsS164.set_1 | refine IsS164.far ?_ NB171_165.out _ | refine IsS164.far ?_ NB171_178.out _) | exact HI171.out)) (by (with_reducible repeat (first | apply Kd.R_alloc | apply Kd.R_drewN | apply Kd.R_drew)); exact HO_179002.out) (by decide)) hk (fun _ h => h.2)) (fun _ h => h.1)); have n1_ := Aside0.mk (Kd.R_mono (Kd.R_keep (IsS164.apart (show IsS164 w _ g171 x172000_2 x172001_2 from by repeat (first | (with_reducible first | exact HI171.out | apply IsS164.alloc | apply IsS164.drewN | apply IsS164.drew | apply IsS164.set_0 | apply IsS164.set_1 | refine IsS164.far ?_ NB171_165.out _ | refine IsS164.far ?_ NB171_178.out _) | exact HI171.out)) (by (with_reducible repeat (first | apply Kd.R_alloc | apply Kd.R_drewN | apply Kd.R_drew)); exact HO_179003.out) (by decide)) hk (fun _ h => h.2)) (fun _ h => h.1)); have n2_ := Aside0.mk (KeepBut.blk hk (g' := gb165) (o := .cells #[.int .u64 0, .int .u8 0, .slice none 0 0, .slice none 0 0] 26 (0, 0)) (by (with_reducible repeat (first | refine blk_drewN ?_ _ | refine blk_drew ?_ | refine blk_alloc ?_ _)); exact BK165.out) NB165_171.out (by simp)); have n3_ := Aside0.mk (KeepBut.blk hk (g' := gb178) (o := .cells #[.int .u64 t172, .int .u8 t175, u179002, u179003] 26 (0, 0)) (by (with_reducible repeat (first | refine blk_drewN ?_ _ | refine blk_drew ?_ | refine blk_alloc ?_ _)); exact BK178.out) NB178_171.out (by simp)); have n4_ := Aside0.mk (hb); have n5_ := Aside0.mk (hi); clear HO_179002; clear HO_179003; clear BK165; clear BK178; clear HB; clear HI171; have HO_179002 := n0_; have HO_179003 := n1_; have BK165 := n2_; have BK178 := n3_; have HB := n4_; have HI171 := n5_; clear n0_ n1_ n2_ n3_ n4_ n5_; (try clear hb); (try clear hb2); (try clear hk); (try clear hi)) | (go_at_call 45; (with_reducible refine (codec_Reader_Rest.calls g171 t202 t203 t204 t205 t206 w _ ?side1 ?side2 A51.out).mono ?_); (case side1 => repeat (first | (with_reducible first | exact HI171.out | apply IsS164.alloc | apply IsS164.drewN | apply IsS164.drew | apply IsS164.set_0 | apply IsS164.set_1 | refine IsS164.far ?_ NB171_165.out _ | refine IsS164.far ?_ NB171_178.out _) | exact HI171.out)); (case side2 => repeat (first | (with_reducible first | exact HB.out | apply below_alloc | apply pw_below_drewN | apply below_drew1 | refine below_set ?_ (IsS164.ge HI171.out) | refine below_set ?_ GE165.out | refine below_set ?_ GE178.out) | exact HB.out)); rintro e w77 ⟨rfl, hi, hb, hk⟩; have n0_ := Aside0.mk (Kd.R_mono (Kd.R_keep (IsS164.apart (show IsS164 w _ g171 t202 t203 from by repeat (first | (with_reducible first | exact HI171.out | apply IsS164.alloc | apply IsS164.drewN | apply IsS164.drew | apply IsS164.set_0 | apply IsS164.set_1 | refine IsS164.far ?_ NB171_165.out _ | refine IsS164.far ?_ NB171_178.out _) | exact HI171.out)) (by (with_reducible repeat (first | apply Kd.R_alloc | apply Kd.R_drewN | apply Kd.R_drew)); exact HO_179002.out) (by decide)) hk (fun _ h => h.2)) (fun _ h => h.1)); have n1_ := Aside0.mk (Kd.R_mono (Kd.R_keep (IsS164.apart (show IsS164 w _ g171 t202 t203 from by repeat (first | (with_reducible first | exact HI171.out | apply IsS164.alloc | apply IsS164.drewN | apply IsS164.drew | apply IsS164.set_0 | apply IsS164.set_1 | refine IsS164.far ?_ NB171_165.out _ | refine IsS164.far ?_ NB171_178.out _) | exact HI171.out)) (by (with_reducible repeat (first | apply Kd.R_alloc | apply Kd.R_drewN | apply Kd.R_drew)); exact HO_179003.out) (by decide)) hk (fun _ h => h.2)) (fun _ h => h.1)); have n2_ := Aside0.mk (KeepBut.blk hk (g' := gb165) (o := .cells #[.int .u64 0, .int .u8 0, .slice none 0 0, .slice none 0 0] 26 (0, 0)) (by (with_reducible repeat (first | refine blk_drewN ?_ _ | refine blk_drew ?_ | refine blk_alloc ?_ _)); exact BK165.out) NB165_171.out (by simp)); have n3_ := Aside0.mk (KeepBut.blk hk (g' := gb178) (o := .cells #[.int .u64 t172, .int .u8 t175, u179002, u179003] 26 (0, 0)) (by (with_reducible repeat (first | refine blk_drewN ?_ _ | refine blk_drew ?_ | refine blk_alloc ?_ _)); exact BK178.out) NB178_171.out (by simp)); have n4_ := Aside0.mk (hb); have n5_ := Aside0.mk (hi); clear HO_179002; clear HO_179003; clear BK165; clear BK178; clear HB; clear HI171; have HO_179002 := n0_; have HO_179003 := n1_; have BK165 := n2_; have BK178 := n3_; have HB := n4_; have HI171 := n5_; clear n0_ n1_ n2_ n3_ n4_ n5_; (try clear hb); (try clear hb2); (try clear hk); (try clear hi); have hnb78 := NB165_178.out; have hnc78 := NB178_165.out; have hnb79 := NB165_171.out; have hnc79 := NB171_165.out; have hcz80_0 : w77.cell? ⟨gb165, 0, none⟩ = some (.int .u64 0) := (blk_cell BK165.out 0).trans rfl; have hcz80_1 : w77.cell? ⟨gb165, 1, none⟩ = some (.int .u8 0) := (blk_cell BK165.out 1).trans rfl; have hcz80_2 : w77.cell? ⟨gb165, 2, none⟩ = some (.slice none 0 0) := (blk_cell BK165.out 2).trans rfl; have hcz80_3 : w77.cell? ⟨gb165, 3, none⟩ = some (.slice none 0 0) := (blk_cell BK165.out 3).trans rfl; have hfz80_0 := blk_frozen BK165.out 0; have hfz80_1 := blk_frozen BK165.out 1; have hfz80_2 := blk_frozen BK165.out 2; have hfz80_3 := blk_frozen BK165.out 3))
                      refine bodyPost_ret (results_ct rfl _ _ gb165 26 #[.int .u64 0, .int .u8 0, .slice none 0 0, .slice none 0 0] (0, 0) _ rfl (by (with_reducible repeat (first | refine blk_drewN ?_ _ | refine blk_drew ?_ | refine blk_alloc ?_ _)); refine blk_put (cs := #[.int .u64 0, .int .u8 0, .slice none 0 0, .slice none 0 0]) ?_ 3 _ rfl; (with_reducible repeat (first | refine blk_drewN ?_ _ | refine blk_drew ?_ | refine blk_alloc ?_ _)); refine blk_put (cs := #[.int .u64 0, .int .u8 0, .slice none 0 0, .slice none 0 0]) ?_ 2 _ rfl; (with_reducible repeat (first | refine blk_drewN ?_ _ | refine blk_drew ?_ | refine blk_alloc ?_ _)); refine blk_put (cs := #[.int .u64 0, .int .u8 0, .slice none 0 0, .slice none 0 0]) ?_ 1 _ rfl; (with_reducible repeat (first | refine blk_drewN ?_ _ | refine blk_drew ?_ | refine blk_alloc ?_ _)); refine blk_put (cs := #[.int .u64 0, .int .u8 0, .slice none 0 0, .slice none 0 0]) ?_ 0 _ rfl; (with_reducible repeat (first | refine blk_drewN ?_ _ | refine blk_drew ?_ | refine blk_alloc ?_ _)); exact BK165.out) Tryz.underlying26 rfl (by kernel_rfl)) rfl ?_
                      exact ⟨_, _, by first | rfl | (simp [errW_none, errW_some] <;> rfl) | (simp only [← hji8, ← hji38]; first | rfl | (simp [errW_none, errW_some] <;> rfl)) | (simp [*, errW_none, errW_some] <;> rfl), by first | exact Kd.R_nil _ _ _ _ _ | exact Kd.N_nil _ _ _ _ _ | exact Kd.V_nil _ _ _ _ _ | exact Kd.Q_nil _ _ _ _ _ | exact Kd.S_nil _ _ _ _ _, by first | exact Kd.R_nil _ _ _ _ _ | exact Kd.N_nil _ _ _ _ _ | exact Kd.V_nil _ _ _ _ _ | exact Kd.Q_nil _ _ _ _ _ | exact Kd.S_nil _ _ _ _ _, by repeat (first | (with_reducible first | exact HB.out | apply below_alloc | apply pw_below_drewN | apply below_drew1 | refine below_set ?_ (IsS164.ge HI171.out) | refine below_set ?_ GE165.out | refine below_set ?_ GE178.out) | exact HB.out)⟩
                  · rw [if_neg c50] at H
                    have c50b0 : (t201 == 0) = false := beq_eq_false_iff_ne.mpr c50
                    have c50b1 : (t201 != 0) = true := bne_iff_ne.mpr c50
                    simp only [Option.some.injEq, Prod.mk.injEq] at H
                    obtain ⟨rfl, rfl, rfl, rfl, rfl⟩ := H
                    go_wp2_with (first | (go_at_call 44; (with_reducible refine (codec_Reader_Err.calls g171 x172000_2 x172001_2 t201 t202 t203 w _ ?side1 ?side2 A49.out).mono ?_); (case side1 => repeat (first | (with_reducible first | exact HI171.out | apply IsS164.alloc | apply IsS164.drewN | apply IsS164.drew | apply IsS164.set_0 | apply IsS164.set_1 | refine IsS164.far ?_ NB171_165.out _ | refine IsS164.far ?_ NB171_178.out _) | exact HI171.out)); (case side2 => repeat (first | (with_reducible first | exact HB.out | apply below_alloc | apply pw_below_drewN | apply below_drew1 | refine below_set ?_ (IsS164.ge HI171.out) | refine below_set ?_ GE165.out | refine below_set ?_ GE178.out) | exact HB.out)); rintro e w81 ⟨rfl, hi, hb, hk⟩; have n0_ := Aside0.mk (Kd.R_mono (Kd.R_keep (IsS164.apart (show IsS164 w _ g171 x172000_2 x172001_2 from by repeat (first | (with_reducible first | exact HI171.out | apply IsS164.alloc | apply IsS164.drewN | apply IsS164.drew | apply IsS164.set_0 | apply IsS164.set_1 | refine IsS164.far ?_ NB171_165.out _ | refine IsS164.far ?_ NB171_178.out _) | exact HI171.out)) (by (with_reducible repeat (first | apply Kd.R_alloc | apply Kd.R_drewN | apply Kd.R_drew)); exact HO_179002.out) (by decide)) hk (fun _ h => h.2)) (fun _ h => h.1)); have n1_ := Aside0.mk (Kd.R_mono (Kd.R_keep (IsS164.apart (show IsS164 w _ g171 x172000_2 x172001_2 from by repeat (first | (with_reducible first | exact HI171.out | apply IsS164.alloc | apply IsS164.drewN | apply IsS164.drew | apply IsS164.set_0 | apply IsS164.set_1 | refine IsS164.far ?_ NB171_165.out _ | refine IsS164.far ?_ NB171_178.out _) | exact HI171.out)) (by (with_reducible repeat (first | apply Kd.R_alloc | apply Kd.R_drewN | apply Kd.R_drew)); exact HO_179003.out) (by decide)) hk (fun _ h => h.2)) (fun _ h => h.1)); have n2_ := Aside0.mk (KeepBut.blk hk (g' := gb165) (o := .cells #[.int .u64 0, .int .u8 0, .slice none 0 0, .slice none 0 0] 26 (0, 0)) (by (with_reducible repeat (first | refine blk_drewN ?_ _ | refine blk_drew ?_ | refine blk_alloc ?_ _)); exact BK165.out) NB165_171.out (by simp)); have n3_ := Aside0.mk (KeepBut.blk hk (g' := gb178) (o := .cells #[.int .u64 t172, .int .u8 t175, u179002, u179003] 26 (0, 0)) (by (with_reducible repeat (first | refine blk_drewN ?_ _ | refine blk_drew ?_ | refine blk_alloc ?_ _)); exact BK178.out) NB178_171.out (by simp)); have n4_ := Aside0.mk (hb); have n5_ := Aside0.mk (hi); clear HO_179002; clear HO_179003; clear BK165; clear BK178; clear HB; clear HI171; have HO_179002 := n0_; have HO_179003 := n1_; have BK165 := n2_; have BK178 := n3_; have HB := n4_; have HI171 := n5_; clear n0_ n1_ n2_ n3_ n4_ n5_; (try clear hb); (try clear hb2); (try clear hk); (try clear hi); have hnb82 := NB165_178.out; have hnc82 := NB178_165.out; have hnb83 := NB165_171.out; have hnc83 := NB171_165.out; have hcz84_0 : w81.cell? ⟨gb165, 0, none⟩ = some (.int .u64 0) := (blk_cell BK165.out 0).trans rfl; have hcz84_1 : w81.cell? ⟨gb165, 1, none⟩ = some (.int .u8 0) := (blk_cell BK165.out 1).trans rfl; have hcz84_2 : w81.cell? ⟨gb165, 2, none⟩ = some (.slice none 0 0) := (blk_cell BK165.out 2).trans rfl; have hcz84_3 : w81.cell? ⟨gb165, 3, none⟩ = some (.slice none 0 0) := (blk_cell BK165.out 3).trans rfl; have hfz84_0 := blk_frozen BK165.out 0; have hfz84_1 := blk_frozen BK165.out 1; have hfz84_2 := blk_frozen BK165.out 2; have hfz84_3 := blk_frozen BK165.out 3))
                    refine bodyPost_ret (results_ct rfl _ _ gb165 26 #[.int .u64 0, .int .u8 0, .slice none 0 0, .slice none 0 0] (0, 0) _ rfl (by (with_reducible repeat (first | refine blk_drewN ?_ _ | refine blk_drew ?_ | refine blk_alloc ?_ _)); refine blk_put (cs := #[.int .u64 0, .int .u8 0, .slice none 0 0, .slice none 0 0]) ?_ 3 _ rfl; (with_reducible repeat (first | refine blk_drewN ?_ _ | refine blk_drew ?_ | refine blk_alloc ?_ _)); refine blk_put (cs := #[.int .u64 0, .int .u8 0, .slice none 0 0, .slice none 0 0]) ?_ 2 _ rfl; (with_reducible repeat (first | refine blk_drewN ?_ _ | refine blk_drew ?_ | refine blk_alloc ?_ _)); refine blk_put (cs := #[.int .u64 0, .int .u8 0, .slice none 0 0, .slice none 0 0]) ?_ 1 _ rfl; (with_reducible repeat (first | refine blk_drewN ?_ _ | refine blk_drew ?_ | refine blk_alloc ?_ _)); refine blk_put (cs := #[.int .u64 0, .int .u8 0, .slice none 0 0, .slice none 0 0]) ?_ 0 _ rfl; (with_reducible repeat (first | refine blk_drewN ?_ _ | refine blk_drew ?_ | refine blk_alloc ?_ _)); exact BK165.out) Tryz.underlying26 rfl (by kernel_rfl)) rfl ?_
                    exact ⟨_, _, by first | rfl | (simp [errW_none, errW_some] <;> rfl) | (simp only [← hji8, ← hji38]; first | rfl | (simp [errW_none, errW_some] <;> rfl)) | (simp [*, errW_none, errW_some] <;> rfl), by first | exact Kd.R_nil _ _ _ _ _ | exact Kd.N_nil _ _ _ _ _ | exact Kd.V_nil _ _ _ _ _ | exact Kd.Q_nil _ _ _ _ _ | exact Kd.S_nil _ _ _ _ _, by first | exact Kd.R_nil _ _ _ _ _ | exact Kd.N_nil _ _ _ _ _ | exact Kd.V_nil _ _ _ _ _ | exact Kd.Q_nil _ _ _ _ _ | exact Kd.S_nil _ _ _ _ _, by repeat (first | (with_reducible first | exact HB.out | apply below_alloc | apply pw_below_drewN | apply below_drew1 | refine below_set ?_ (IsS164.ge HI171.out) | refine below_set ?_ GE165.out | refine below_set ?_ GE178.out) | exact HB.out)⟩
                · rw [if_neg c48] at H
                  have c48b0 : (t167 == (a0.size : Int)) = false := beq_eq_false_iff_ne.mpr c48
                  have c48b1 : (t167 != (a0.size : Int)) = true := bne_iff_ne.mpr c48
                  simp only [Option.some.injEq, Prod.mk.injEq] at H
                  obtain ⟨rfl, rfl, rfl, rfl, rfl⟩ := H
                  have hnb85 := NB165_178.out
                  have hnc85 := NB178_165.out
                  have hnb86 := NB165_171.out
                  have hnc86 := NB171_165.out
                  have hcz87_0 : wr.cell? ⟨gb165, 0, none⟩ = some (.int .u64 0) := (blk_cell BK165.out 0).trans rfl
                  have hcz87_1 : wr.cell? ⟨gb165, 1, none⟩ = some (.int .u8 0) := (blk_cell BK165.out 1).trans rfl
                  have hcz87_2 : wr.cell? ⟨gb165, 2, none⟩ = some (.slice none 0 0) := (blk_cell BK165.out 2).trans rfl
                  have hcz87_3 : wr.cell? ⟨gb165, 3, none⟩ = some (.slice none 0 0) := (blk_cell BK165.out 3).trans rfl
                  have hfz87_0 := blk_frozen BK165.out 0
                  have hfz87_1 := blk_frozen BK165.out 1
                  have hfz87_2 := blk_frozen BK165.out 2
                  have hfz87_3 := blk_frozen BK165.out 3
                  go_wp2
                  refine bodyPost_ret (results_ct rfl _ _ gb165 26 #[.int .u64 0, .int .u8 0, .slice none 0 0, .slice none 0 0] (0, 0) _ rfl (by (with_reducible repeat (first | refine blk_drewN ?_ _ | refine blk_drew ?_ | refine blk_alloc ?_ _)); refine blk_put (cs := #[.int .u64 0, .int .u8 0, .slice none 0 0, .slice none 0 0]) ?_ 3 _ rfl; (with_reducible repeat (first | refine blk_drewN ?_ _ | refine blk_drew ?_ | refine blk_alloc ?_ _)); refine blk_put (cs := #[.int .u64 0, .int .u8 0, .slice none 0 0, .slice none 0 0]) ?_ 2 _ rfl; (with_reducible repeat (first | refine blk_drewN ?_ _ | refine blk_drew ?_ | refine blk_alloc ?_ _)); refine blk_put (cs := #[.int .u64 0, .int .u8 0, .slice none 0 0, .slice none 0 0]) ?_ 1 _ rfl; (with_reducible repeat (first | refine blk_drewN ?_ _ | refine blk_drew ?_ | refine blk_alloc ?_ _)); refine blk_put (cs := #[.int .u64 0, .int .u8 0, .slice none 0 0, .slice none 0 0]) ?_ 0 _ rfl; (with_reducible repeat (first | refine blk_drewN ?_ _ | refine blk_drew ?_ | refine blk_alloc ?_ _)); exact BK165.out) Tryz.underlying26 rfl (by kernel_rfl)) rfl ?_
                  exact ⟨_, _, by first | rfl | (simp [errW_none, errW_some] <;> rfl) | (simp only [← hji8, ← hji38]; first | rfl | (simp [errW_none, errW_some] <;> rfl)) | (simp [*, errW_none, errW_some] <;> rfl), by first | exact Kd.R_nil _ _ _ _ _ | exact Kd.N_nil _ _ _ _ _ | exact Kd.V_nil _ _ _ _ _ | exact Kd.Q_nil _ _ _ _ _ | exact Kd.S_nil _ _ _ _ _, by first | exact Kd.R_nil _ _ _ _ _ | exact Kd.N_nil _ _ _ _ _ | exact Kd.V_nil _ _ _ _ _ | exact Kd.Q_nil _ _ _ _ _ | exact Kd.S_nil _ _ _ _ _, by repeat (first | (with_reducible first | exact HB.out | apply below_alloc | apply pw_below_drewN | apply below_drew1 | refine below_set ?_ (IsS164.ge HI171.out) | refine below_set ?_ GE165.out | refine below_set ?_ GE178.out) | exact HB.out)⟩
  · rw [if_neg c3] at H
    have c3b0 : (t168 == 0) = false := beq_eq_false_iff_ne.mpr c3
    have c3b1 : (t168 != 0) = true := bne_iff_ne.mpr c3
    simp only [Option.some.injEq, Prod.mk.injEq] at H
    obtain ⟨rfl, rfl, rfl, rfl, rfl⟩ := H
    go_enter Tryz.func12, Tryz.ntmps12
    go_wp2_with (first | ((with_reducible refine gate_dst (N := 2) rfl ?_); refine box_event ?hg (N := 2) ?hd (cs := #[.int .u64 0, .int .u8 0, .slice none 0 0, .slice none 0 0]) (t := 26) ?hr ?_; (case hd => rfl); (case hg => rfl); (case hr => first | (go_simp; done) | (go_simp; rfl)); intro gb165 hg w88 hbox hb; have n0_ := Aside0.mk (below_step (by repeat (first | (with_reducible first | exact HB.out | apply below_alloc | apply pw_below_drewN | apply below_drew1) | exact HB.out)) hb); have n1_ := Aside0.mk (hbox); have n2_ := Aside0.mk ((by rw [hg]; exact (below_size (by repeat (first | (with_reducible first | exact HB.out | apply below_alloc | apply pw_below_drewN | apply below_drew1) | exact HB.out))) : w.heap.size ≤ gb165)); have n3_ := Aside0.mk ((by rw [hg]; exact (below_size (by repeat (first | (with_reducible first | exact HB.out | apply below_alloc | apply pw_below_drewN | apply below_drew1) | exact HB.out))) : w.heap.size ≤ gb165)); clear HB; have HB := n0_; have BK165 := n1_; have GW165 := n2_; have GE165 := n3_; clear n0_ n1_ n2_ n3_; clear hb hbox hg) | ((with_reducible refine gate_callee (f := 40) rfl ?_); refine goesL_ (some 12) rfl rfl Tryz.func40 (by kernel_rfl) rfl #[.string a0] rfl (by (try simp only [List.map_toArray, List.map_cons, List.map_nil]); first | done | rfl | (simp only [List.length_drop, List.length_take]; rfl)) ?_; (with_reducible refine (frame_Next.calls k a0 t166 t167 t168 _ A2.out ⟨by first | exact HL.out | ((repeat (first | exact HL.out | apply Go.Proofs.YtbffgpfkgmhmhaaGreatDoor.Crc.laid_drewN | apply Go.Proofs.YtbffgpfkgmhmhaaGreatDoor.Crc.laid_drew)); done) | exact Go.Proofs.YtbffgpfkgmhmhaaGreatDoor.Crc.laid_below HL.out (by repeat (first | (with_reducible first | exact HB.out | apply below_alloc | apply pw_below_drewN | apply below_drew1 | refine below_set ?_ GE165.out) | exact HB.out))⟩).mono ?_); rintro e w89 ⟨rfl, hb⟩; refine ⟨_, rfl, ?_⟩; have n0_ := Aside0.mk (blk_below (g := gb165) (o := .cells #[.int .u64 0, .int .u8 0, .slice none 0 0, .slice none 0 0] 26 (0, 0)) (by (with_reducible repeat (first | refine blk_drewN ?_ _ | refine blk_drew ?_ | refine blk_alloc ?_ _)); exact BK165.out) hb); have n1_ := Aside0.mk (below_step (by repeat (first | (with_reducible first | exact HB.out | apply below_alloc | apply pw_below_drewN | apply below_drew1 | refine below_set ?_ GE165.out) | exact HB.out)) hb); clear BK165; clear HB; have BK165 := n0_; have HB := n1_; clear n0_ n1_; (try clear hb); (try clear hb2); (try clear hk); (try clear hi); have hcz90_0 : w89.cell? ⟨gb165, 0, none⟩ = some (.int .u64 0) := (blk_cell BK165.out 0).trans rfl; have hcz90_1 : w89.cell? ⟨gb165, 1, none⟩ = some (.int .u8 0) := (blk_cell BK165.out 1).trans rfl; have hcz90_2 : w89.cell? ⟨gb165, 2, none⟩ = some (.slice none 0 0) := (blk_cell BK165.out 2).trans rfl; have hcz90_3 : w89.cell? ⟨gb165, 3, none⟩ = some (.slice none 0 0) := (blk_cell BK165.out 3).trans rfl; have hfz90_0 := blk_frozen BK165.out 0; have hfz90_1 := blk_frozen BK165.out 1; have hfz90_2 := blk_frozen BK165.out 2; have hfz90_3 := blk_frozen BK165.out 3))
    refine bodyPost_ret (results_ct rfl _ _ gb165 26 #[.int .u64 0, .int .u8 0, .slice none 0 0, .slice none 0 0] (0, 0) _ rfl (by (with_reducible repeat (first | refine blk_drewN ?_ _ | refine blk_drew ?_ | refine blk_alloc ?_ _)); refine blk_put (cs := #[.int .u64 0, .int .u8 0, .slice none 0 0, .slice none 0 0]) ?_ 3 _ rfl; (with_reducible repeat (first | refine blk_drewN ?_ _ | refine blk_drew ?_ | refine blk_alloc ?_ _)); refine blk_put (cs := #[.int .u64 0, .int .u8 0, .slice none 0 0, .slice none 0 0]) ?_ 2 _ rfl; (with_reducible repeat (first | refine blk_drewN ?_ _ | refine blk_drew ?_ | refine blk_alloc ?_ _)); refine blk_put (cs := #[.int .u64 0, .int .u8 0, .slice none 0 0, .slice none 0 0]) ?_ 1 _ rfl; (with_reducible repeat (first | refine blk_drewN ?_ _ | refine blk_drew ?_ | refine blk_alloc ?_ _)); refine blk_put (cs := #[.int .u64 0, .int .u8 0, .slice none 0 0, .slice none 0 0]) ?_ 0 _ rfl; (with_reducible repeat (first | refine blk_drewN ?_ _ | refine blk_drew ?_ | refine blk_alloc ?_ _)); exact BK165.out) Tryz.underlying26 rfl (by kernel_rfl)) rfl ?_
    exact ⟨_, _, by first | rfl | (simp [errW_none, errW_some] <;> rfl) | (simp [*, errW_none, errW_some] <;> rfl), by first | exact Kd.R_nil _ _ _ _ _ | exact Kd.N_nil _ _ _ _ _ | exact Kd.V_nil _ _ _ _ _ | exact Kd.Q_nil _ _ _ _ _ | exact Kd.S_nil _ _ _ _ _, by first | exact Kd.R_nil _ _ _ _ _ | exact Kd.N_nil _ _ _ _ _ | exact Kd.V_nil _ _ _ _ _ | exact Kd.Q_nil _ _ _ _ _ | exact Kd.S_nil _ _ _ _ _, by repeat (first | (with_reducible first | exact HB.out | apply below_alloc | apply pw_below_drewN | apply below_drew1 | refine below_set ?_ GE165.out) | exact HB.out)⟩
end Go.Proofs.YtbffgpfkgmhmhaaGreatDoor.HM
/- The plain law of the checksum: four bits by the table are four single bits; so a byte by the table is eight single bits. -/
set_option linter.unusedVariables false
namespace Go.Proofs.YtbffgpfkgmhmhaaGreatDoor.CrcLaw
open Go.RowKit
/-- The table over the natural numbers. -/
def tabN (i : Nat) : Nat := [0, 498536548, 997073096, 651767980, 1994146192, 1802195444, 1303535960, 1342533948, 3988292384, 4027552580, 3604390888, 3412177804, 2607071920, 2262029012, 2685067896, 3183342108].getD i 0
def halfN (c : Nat) : Nat := tabN (c % 16) ^^^ (c / 16)
def stepN (c b : Nat) : Nat := halfN (halfN (c ^^^ b))
end Go.Proofs.YtbffgpfkgmhmhaaGreatDoor.CrcLaw
/- Plain laws on the printed functions of the checksum, the frame, the numbers: what each comes to, with enough rounds. -/
set_option linter.unusedVariables false
namespace Go.Proofs.YtbffgpfkgmhmhaaGreatDoor.PB
open Go.RowKit Go.Proofs.YtbffgpfkgmhmhaaGreatDoor.HM Go.Proofs.YtbffgpfkgmhmhaaGreatDoorW.PrintWords Go.Proofs.YtbffgpfkgmhmhaaGreatDoorW.PrintLast Go.Proofs.YtbffgpfkgmhmhaaGreatDoorW.PrintMore
open Go.Proofs.YtbffgpfkgmhmhaaGreatDoor.CrcLaw
/-- With enough rounds it is so. -/
def Evt {α : Type} (g : Nat → Option α) (r : α) : Prop := ∃ K, ∀ k, K ≤ k → g k = some r
theorem Evt.of {α : Type} {g : Nat → Option α} {r : α} (K : Nat) (h : ∀ k, K ≤ k → g k = some r) : Evt g r := ⟨K, h⟩
theorem Evt.pure {α : Type} (r : α) : Evt (fun _ => some r) r := ⟨0, fun _ _ => rfl⟩
theorem Evt.bind {α β : Type} {g : Nat → Option α} {r : α} {f : Nat → α → Option β} {s : β} (h : Evt g r) (h2 : Evt (fun k => f k r) s) : Evt (fun k => (g k).bind (f k)) s := by
  obtain ⟨K, h⟩ := h
  obtain ⟨K2, h2⟩ := h2
  exact ⟨max K K2, fun k hk => by show (g k).bind (f k) = some s; rw [h k (by omega)]; exact h2 k (by omega)⟩
/-! ### numbers of 32 bits -/
theorem bits32 (op : BinOp) (a b : Nat) (ha : a < 4294967296) (hb : b < 4294967296) : Go.bits .xor .u32 a b = ((a ^^^ b : Nat) : Int) := by
  have hx : a ^^^ b < 2 ^ 32 := Nat.xor_lt_two_pow ha hb
  have e : (BitVec.ofInt 32 (a : Int) ^^^ BitVec.ofInt 32 (b : Int)).toNat = a ^^^ b := by
    rw [BitVec.toNat_xor, BitVec.ofInt_natCast, BitVec.ofInt_natCast, BitVec.toNat_ofNat, BitVec.toNat_ofNat, Nat.mod_eq_of_lt (show a < 2 ^ 32 from ha), Nat.mod_eq_of_lt (show b < 2 ^ 32 from hb)]
  show IntKind.u32.wrap (((BitVec.ofInt 32 (a : Int) ^^^ BitVec.ofInt 32 (b : Int)).toNat : Nat) : Int) = _
  rw [e, IntKind.wrap_u32]
  have : ((a ^^^ b : Nat) : Int) < ((4294967296 : Nat) : Int) := Int.ofNat_lt.2 hx
  omega
theorem and32 (a m j : Nat) (hm : m = 2 ^ j - 1) (hj : j ≤ 32) (ha : a < 4294967296) : Go.bits .and .u32 a m = ((a % 2 ^ j : Nat) : Int) := by
  have h := bits_mask .u32 32 (by decide) (fun n h0 h1 => by rw [IntKind.wrap_u32]; omega) j hj (a : Int) (by omega) (by omega)
  have e : ((m : Nat) : Int) = 2 ^ j - 1 := by
    subst hm
    rw [Int.natCast_sub (Nat.one_le_two_pow)]; simp
  rw [e, h]
  simp
theorem tab_is (i : Nat) (hi : i < 16) : Crc.tab (i : Int) = ((tabN i : Nat) : Int) := by
  have : ∀ i : Nat, i < 16 → Crc.tab (i : Int) = ((tabN i : Nat) : Int) := by decide
  exact this i hi
theorem tabN_lt (i : Nat) : tabN i < 4294967296 := by
  unfold tabN
  rcases Nat.lt_or_ge i 16 with h | h
  · have : ∀ i, i < 16 → tabN i < 4294967296 := by decide
    exact this i h
  · rw [List.getD_eq_getElem?_getD, List.getElem?_eq_none (by simpa using h)]; decide
theorem half_int (c : Nat) (hc : c < 4294967296) : Crc.half (c : Int) = ((halfN c : Nat) : Int) := by
  unfold Crc.half halfN
  have h := and32 c 15 4 (by decide) (by decide) hc
  rw [show ((15 : Nat) : Int) = 15 from rfl] at h
  rw [h, tab_is _ (Nat.mod_lt _ (by decide)), show ((c : Int) / 16) = ((c / 16 : Nat) : Int) by omega]
  exact bits32 .xor _ _ (tabN_lt _) (by omega)
theorem halfN_lt (c : Nat) (hc : c < 4294967296) : halfN c < 4294967296 := Nat.xor_lt_two_pow (n := 32) (tabN_lt _) (Nat.lt_of_le_of_lt (Nat.div_le_self _ _) hc)
theorem stepN_lt (c b : Nat) (hc : c < 4294967296) (hb : b < 256) : stepN c b < 4294967296 := halfN_lt _ (halfN_lt _ (Nat.xor_lt_two_pow (n := 32) hc (by omega)))
theorem step_int (c b : Nat) (hc : c < 4294967296) (hb : b < 256) : Crc.stepI (c : Int) (b : Int) = ((stepN c b : Nat) : Int) := by
  unfold Crc.stepI stepN
  have hx : c ^^^ b < 4294967296 := Nat.xor_lt_two_pow (n := 32) hc (by omega)
  rw [bits32 .xor c b hc (by omega), half_int _ hx, half_int _ (halfN_lt _ hx)]
/-! ### the checksum of a text -/
def foldN (c : Nat) (l : List UInt8) : Nat := l.foldl (fun c b => stepN c b.toNat) c
theorem foldN_lt (l : List UInt8) : ∀ c, c < 4294967296 → foldN c l < 4294967296 := by
  induction l with
  | nil => exact fun c h => h
  | cons b l ih => exact fun c h => ih _ (stepN_lt c b.toNat h b.toNat_lt)
theorem foldN_append (c : Nat) (a b : List UInt8) : foldN c (a ++ b) = foldN (foldN c a) b := List.foldl_append
def flip (c : Nat) : Nat := c ^^^ 4294967295
theorem flip_lt (c : Nat) (h : c < 4294967296) : flip c < 4294967296 := Nat.xor_lt_two_pow (n := 32) h (by decide)
theorem flip_flip (c : Nat) : flip (flip c) = c := by unfold flip; rw [Nat.xor_assoc, Nat.xor_self, Nat.xor_zero]
/-- P3.1. -/
def updN (c : Nat) (s : ByteArray) : Nat := flip (foldN (flip c) s.data.toList)
theorem updN_lt (c : Nat) (s : ByteArray) (h : c < 4294967296) : updN c s < 4294967296 := flip_lt _ (foldN_lt _ _ (flip_lt c h))
theorem updN_append (c : Nat) (a b : ByteArray) : updN (updN c a) b = updN c (a ++ b) := by
  unfold updN
  rw [flip_flip, ByteArray.data_append, Array.toList_append, foldN_append]
theorem flip_int' (c : Nat) (h : c < 4294967296) : Go.bits .xor .u32 4294967295 (c : Int) = ((flip c : Nat) : Int) := by
  rw [show (4294967295 : Int) = ((4294967295 : Nat) : Int) from rfl, bits32 .xor 4294967295 c (by decide) h, Nat.xor_comm]; rfl
theorem bt_nat (s : ByteArray) (i : Nat) (h : i < s.size) : bt s (i : Int) = ((s.data.toList[i]'(by simpa using h)).toNat : Int) := by
  unfold bt
  rw [dif_pos (by simpa using h)]
  simp
  rfl
theorem drop_cons (s : ByteArray) (i : Nat) (h : i < s.size) : ∃ b : UInt8, s.data.toList.drop i = b :: s.data.toList.drop (i + 1) ∧ bt s (i : Int) = (b.toNat : Int) :=
  ⟨s.data.toList[i]'(by simpa using h), List.drop_eq_getElem_cons (by simpa using h), bt_nat s i h⟩
theorem step_f (c : Nat) (b : UInt8) (hc : c < 4294967296) : crc_step.f (c : Int) (b.toNat : Int) = some ((stepN c b.toNat : Nat) : Int) := by
  have := b.toNat_lt
  unfold crc_step.f
  rw [if_pos (by omega), step_int c b.toNat hc (by omega)]
theorem update_loop (s : ByteArray) (hs : s.size < 9223372036854775807) (d : Nat) : ∀ (k i c : Nat), c < 4294967296 → i + d = s.size → d < k →
    crc_Update.l0 k (c : Int) s (s.size : Int) (i : Int) = some ((flip (foldN c (s.data.toList.drop i)) : Nat) : Int) := by
  induction d with
  | zero =>
    intro k i c hc hd hk
    obtain ⟨k, rfl⟩ : ∃ m, k = m + 1 := ⟨k - 1, by omega⟩
    simp only [crc_Update.l0]
    rw [if_neg (by omega), List.drop_eq_nil_of_le (by simp; omega), flip_int' c hc]
    rfl
  | succ d ih =>
    intro k i c hc hd hk
    obtain ⟨k, rfl⟩ : ∃ m, k = m + 1 := ⟨k - 1, by omega⟩
    obtain ⟨b, e, hb⟩ := drop_cons s i (by omega)
    have h2 := b.toNat_lt
    simp only [crc_Update.l0]
    rw [if_pos (by omega), if_pos (by omega), if_pos (by omega), hb, step_f c b hc, Option.bind_some]
    rw [show wrap64 ((i : Int) + 1) = ((i + 1 : Nat) : Int) by unfold wrap64; omega, e]
    exact ih k (i + 1) _ (stepN_lt c b.toNat hc h2) (by omega) (by omega)
theorem update_f (c : Nat) (hc : c < 4294967296) (s : ByteArray) (hs : s.size < 9223372036854775807) (k : Nat) (hk : s.size < k) : crc_Update.f k (c : Int) s = some ((updN c s : Nat) : Int) := by
  unfold crc_Update.f
  rw [flip_int' c hc]
  have := update_loop s hs s.size k 0 (flip c) (flip_lt c hc) (by omega) hk
  simpa [updN] using this
theorem sum_f (s : ByteArray) (hs : s.size < 9223372036854775807) (k : Nat) (hk : s.size < k) : crc_Sum.f k s = some ((updN 0 s : Nat) : Int) := by
  unfold crc_Sum.f
  have := update_f 0 (by decide) s hs k hk
  rw [show ((0 : Nat) : Int) = 0 from rfl] at this
  rw [this, Option.bind_some]
/-- P4.1. -/
def headN (a : ByteArray) : List Int := Wr.leBytes (a.size : Int) 2 ++ Wr.leBytes ((updN 0 (strOfNums (Wr.leBytes (a.size : Int) 2) ++ a) : Nat) : Int) 4
def frameN (a : ByteArray) : ByteArray := strOfNums (headN a) ++ a
theorem str_len (l : List Int) : (strOfNums l).size = l.length := Wr.str_size l
theorem frame_put_f (a : ByteArray) (ha : a.size ≤ 4096) (k : Nat) (hk : 5000 < k) : frame_Put.f k a = some (frameN a, 0) := by
  unfold frame_Put.f
  rw [if_neg (by omega)]
  have hl : (strOfNums (Wr.leBytes (a.size : Int) 2)).size = 2 := by rw [str_len, Wr.leBytes_len]
  rw [sum_f _ (by omega) k (by omega), Option.bind_some]
  have h1 := updN_lt 0 (strOfNums (Wr.leBytes (a.size : Int) 2)) (by decide)
  rw [update_f _ h1 a (by omega) k (by omega), Option.bind_some, updN_append]
  have h2 := updN_lt 0 (strOfNums (Wr.leBytes (a.size : Int) 2) ++ a) (by decide)
  rw [if_pos (by omega)]
  rfl
end Go.Proofs.YtbffgpfkgmhmhaaGreatDoor.PB
/- Plain laws on the printed functions of the manifest: whether it may be, its payload, its text. -/
set_option linter.unusedVariables false
namespace Go.Proofs.YtbffgpfkgmhmhaaGreatDoor.PM
open Go.RowKit Go.Proofs.YtbffgpfkgmhmhaaGreatDoor.HM Go.Proofs.YtbffgpfkgmhmhaaGreatDoorW.PrintWords Go.Proofs.YtbffgpfkgmhmhaaGreatDoorW.PrintLast Go.Proofs.YtbffgpfkgmhmhaaGreatDoorW.PrintMore
open Go.Proofs.YtbffgpfkgmhmhaaGreatDoor.PB
def rises : Int → Int → List S29 → Bool
  | _, _, [] => true
  | a, b, x :: l => decide (a < x.f0) && (decide (b ≤ x.f1) && rises x.f0 x.f1 l)
def tailB (l3 : List Int) : Bool := if l3.length = 2 then decide (rd l3 1 < rd l3 0) else true
/-- May it be? -/
def okB (e p : Int) (l2 : List S29) (l3 : List Int) : Bool := decide (e ≠ 0) && (decide (p ≤ 1) && (decide (1 ≤ l2.length) && (decide (l2.length ≤ 12) && (decide (l3.length ≤ 2) && (rises 0 0 l2 && tailB l3)))))
theorem drop78 (l : List S29) (i : Nat) (h : i < l.length) : l.drop i = rd_T29 l (i : Int) :: l.drop (i + 1) := by
  rw [List.drop_eq_getElem_cons h]
  unfold rd_T29
  rw [Int.toNat_natCast, List.getD_eq_getElem?_getD, List.getElem?_eq_getElem h]
  rfl
theorem check_loop (e p : Int) (l2 : List S29) (l3 : List Int) (hl : l2.length ≤ 12) (h3 : l3.length ≤ 2) (d : Nat) : ∀ (k i : Nat) (a b : Int), i + d = l2.length → d < k →
    manifest_Check.l0 k l2 (l2.length : Int) (i : Int) e p l2 l3 a b = some (if (rises a b (l2.drop i) && tailB l3) = true then 0 else 4) := by
  induction d with
  | zero =>
    intro k i a b hd hk
    obtain ⟨k, rfl⟩ : ∃ m, k = m + 1 := ⟨k - 1, by omega⟩
    simp only [manifest_Check.l0]
    rw [if_neg (by omega), List.drop_eq_nil_of_le (by omega)]
    unfold rises tailB
    by_cases h : l3.length = 2
    · rw [if_pos (by omega), if_pos (by omega), if_pos (by omega), if_pos h]
      by_cases c : rd l3 0 ≤ rd l3 1
      · rw [if_pos c, if_neg (by simp; omega)]
      · rw [if_neg c, if_pos (by simp; omega)]
    · rw [if_neg (by omega), if_neg h]; simp
  | succ d ih =>
    intro k i a b hd hk
    obtain ⟨k, rfl⟩ : ∃ m, k = m + 1 := ⟨k - 1, by omega⟩
    simp only [manifest_Check.l0]
    rw [if_pos (by omega), if_pos (by omega), if_pos (by omega), drop78 l2 i (by omega)]
    have hw : wrap64 ((i : Int) + 1) = ((i + 1 : Nat) : Int) := by unfold wrap64; omega
    rw [hw]
    have hn := ih k (i + 1) (rd_T29 l2 i).f0 (rd_T29 l2 i).f1 (by omega) (by omega)
    by_cases c1 : (rd_T29 l2 i).f0 ≤ a
    · rw [if_pos c1, if_neg (by simp [rises]; omega)]
    · rw [if_neg c1]
      by_cases c2 : (rd_T29 l2 i).f1 < b
      · rw [if_pos c2, if_neg (by simp [rises]; omega)]
      · rw [if_neg c2, hn]
        have e1 : decide (a < (rd_T29 l2 i).f0) = true := decide_eq_true (by omega)
        have e2 : decide (b ≤ (rd_T29 l2 i).f1) = true := decide_eq_true (by omega)
        simp only [rises, e1, e2, Bool.true_and]
theorem check_f (e p : Int) (l2 : List S29) (l3 : List Int) (k : Nat) (hk : 100 < k) : manifest_Check.f k e p l2 l3 = some (if okB e p l2 l3 = true then 0 else 4) := by
  obtain ⟨k, rfl⟩ : ∃ m, k = m + 1 := ⟨k - 1, by omega⟩
  unfold manifest_Check.f okB
  have j1 : manifest_Check.j0 (k + 1) true e p l2 l3 = some 4 := by simp only [manifest_Check.j0, if_true]
  by_cases a1 : e = 0
  · rw [if_pos a1, j1, if_neg (by simp [a1])]
  · rw [if_neg a1]
    by_cases a2 : p > 1
    · rw [if_pos a2, j1, if_neg (by simp; omega)]
    · rw [if_neg a2]
      by_cases a3 : (l2.length : Int) < 1
      · rw [if_pos a3, j1, if_neg (by simp; omega)]
      · rw [if_neg a3]
        by_cases a4 : (l2.length : Int) > 12
        · rw [if_pos a4, j1, if_neg (by simp; omega)]
        · rw [if_neg a4]
          by_cases a5 : (l3.length : Int) > 2
          · have : decide ((l3.length : Int) > 2) = true := decide_eq_true a5
            rw [this, j1, if_neg (by simp; omega)]
          · have h5 : decide ((l3.length : Int) > 2) = false := decide_eq_false a5
            rw [h5]
            simp only [manifest_Check.j0]
            rw [if_neg (by decide)]
            have := check_loop e p l2 l3 (by omega) (by omega) l2.length k 0 0 0 (by omega) (by omega)
            rw [show ((0 : Nat) : Int) = 0 from rfl, List.drop_zero] at this
            rw [this]
            have b1 : decide (e ≠ 0) = true := by simp [a1]
            have b2 : decide (p ≤ 1) = true := decide_eq_true (by omega)
            have b3 : decide (1 ≤ l2.length) = true := decide_eq_true (by omega)
            have b4 : decide (l2.length ≤ 12) = true := decide_eq_true (by omega)
            have b5 : decide (l3.length ≤ 2) = true := decide_eq_true (by omega)
            rw [b1, b2, b3, b4, b5]
            simp only [Bool.true_and]
def okNums (l2 : List S29) (l3 : List Int) : Prop := (∀ x ∈ l2, 0 ≤ x.f0 ∧ x.f0 < 18446744073709551616 ∧ 0 ≤ x.f1 ∧ x.f1 < 18446744073709551616) ∧ ∀ x ∈ l3, 0 ≤ x ∧ x < 18446744073709551616
theorem okM_of (e p : Int) (l2 : List S29) (l3 : List Int) (he : 0 ≤ e ∧ e < 18446744073709551616) (hp : 0 ≤ p ∧ p < 256) (ho : okNums l2 l3) (h2 : l2.length ≤ 50) (h3 : l3.length ≤ 50) : okM e p l2 l3 = true := by
  unfold okM
  simp only [Bool.and_eq_true, decide_eq_true_eq, List.all_eq_true]
  exact ⟨⟨⟨he.1, he.2, hp.1, hp.2, h2, h3⟩, fun x hx => ho.1 x hx⟩, fun x hx => ho.2 x hx⟩
/-- P17.1: the text. -/
def textN (e p : Int) (l2 : List S29) (l3 : List Int) : ByteArray := frameN (strOfNums (payN e p l2 l3))
theorem payN_len (e p : Int) (l2 : List S29) (l3 : List Int) : (payN e p l2 l3).length = 11 + 16 * l2.length + 8 * l3.length := by
  unfold payN
  simp [Wr.leBytes_len, payS_len, payC_len]
  omega
theorem put_f (e p : Int) (l2 : List S29) (l3 : List Int) (he : 0 ≤ e ∧ e < 18446744073709551616) (hp : 0 ≤ p ∧ p < 256) (ho : okNums l2 l3) (h2 : l2.length ≤ 50) (h3 : l3.length ≤ 50) (k : Nat) (hk : 100000 < k) :
    manifest_Put.f k e p l2 l3 = some (if okB e p l2 l3 = true then (textN e p l2 l3, 0) else (⟨#[]⟩, 4)) := by
  unfold manifest_Put.f
  rw [check_f e p l2 l3 k (by omega), Option.bind_some]
  by_cases h : okB e p l2 l3 = true
  · rw [if_pos h, if_pos h, if_pos rfl, if_pos (okM_of e p l2 l3 he hp ho h2 h3)]
    exact frame_put_f _ (by rw [str_len, payN_len]; omega) k (by omega)
  · rw [if_neg h, if_neg h, if_neg (by decide)]
end Go.Proofs.YtbffgpfkgmhmhaaGreatDoor.PM
-- out of the translation's print, by a program and by hand (wip/tools/hp.py)
namespace Go.Proofs.YtbffgpfkgmhmhaaGreatDoor.HM
open Go.RowKit Go.Proofs.YtbffgpfkgmhmhaaGreatDoorW.PrintWords Go.Proofs.YtbffgpfkgmhmhaaGreatDoorW.PrintLast Go.Proofs.YtbffgpfkgmhmhaaGreatDoorW.PrintMore
attribute [local go_sem] max2_int min2_int max_two min_two max_three min_three max_four min_four   -- for this text's walks alone
set_option linter.unusedVariables false
set_option linter.unusedSimpArgs false
theorem eqA29 (d : Nat) (w : World) (x0 y0 : Int) (x1 y1 : Int) :
    (Op.equalIn (d + 2) 29 (.agg #[.int .u64 x0, .int .u64 x1]) (.agg #[.int .u64 y0, .int .u64 y1])).run Tryz.prog w = .ok (x0 == y0 && (x1 == y1)) w := by
  refine eqA_of Tryz.underlying29 (by kernel_rfl) ?_
  refine eqf_cons (by rfl) (by go_simp; rfl) (by go_simp; rfl) (by go_simp) ?_
  exact eqf_last (by rfl) (by go_simp; rfl) (by go_simp; rfl) (by go_simp)
end Go.Proofs.YtbffgpfkgmhmhaaGreatDoor.HM
-- out of the translation's print, by a program and by hand (wip/tools/hp.py)
namespace Go.Proofs.YtbffgpfkgmhmhaaGreatDoor.HM
open Go.RowKit Go.Proofs.YtbffgpfkgmhmhaaGreatDoorW.PrintWords Go.Proofs.YtbffgpfkgmhmhaaGreatDoorW.PrintLast Go.Proofs.YtbffgpfkgmhmhaaGreatDoorW.PrintMore
attribute [local go_sem] max2_int min2_int max_two min_two max_three min_three max_four min_four   -- for this text's walks alone
set_option linter.unusedVariables false
set_option linter.unusedSimpArgs false
attribute [local go_sem high] eqA29
/-! ### hindcastlaw17_same: function 15 -/
mutual
def hindcastlaw17_same.j0 : Nat → Bool → Int → Int → List (S29) → List Int → Int → Int → List (S29) → List Int → Option (Bool)
  | 0, _, _, _, _, _, _, _, _, _ => none
  | k + 1, x36, x209000, x209001, x209002, x209003, x210000, x210001, x210002, x210003 => if x36 = true then (some false) else (hindcastlaw17_same.l0 k 0 x209000 x209001 x209002 x209003 x210000 x210001 x210002 x210003)
def hindcastlaw17_same.l0 : Nat → Int → Int → Int → List (S29) → List Int → Int → Int → List (S29) → List Int → Option (Bool)
  | 0, _, _, _, _, _, _, _, _, _ => none
  | k + 1, x5, x209000, x209001, x209002, x209003, x210000, x210001, x210002, x210003 => if x5 < (x209002.length : Int) then (if 0 ≤ x5 then (if x5 < (x210002.length : Int) then (if (!(((rd_T29 x209002 x5).f0) == ((rd_T29 x210002 x5).f0)) || (!(((rd_T29 x209002 x5).f1) == ((rd_T29 x210002 x5).f1)))) = true then (some false) else (hindcastlaw17_same.l0 k (wrap64 (x5 + 1)) x209000 x209001 x209002 x209003 x210000 x210001 x210002 x210003)) else (none)) else (none)) else (hindcastlaw17_same.l1 k 0 x209000 x209001 x209002 x209003 x210000 x210001 x210002 x210003)
def hindcastlaw17_same.l1 : Nat → Int → Int → Int → List (S29) → List Int → Int → Int → List (S29) → List Int → Option (Bool)
  | 0, _, _, _, _, _, _, _, _, _ => none
  | k + 1, x6, x209000, x209001, x209002, x209003, x210000, x210001, x210002, x210003 => if x6 < (x209003.length : Int) then (if 0 ≤ x6 then (if x6 < (x210003.length : Int) then (if (rd x209003 x6) = (rd x210003 x6) then (hindcastlaw17_same.l1 k (wrap64 (x6 + 1)) x209000 x209001 x209002 x209003 x210000 x210001 x210002 x210003) else (some false)) else (none)) else (none)) else (some true)
end
def hindcastlaw17_same.f (k : Nat) (a0_0 : Int) (a0_1 : Int) (l0_2 : List (S29)) (l0_3 : List Int) (a1_0 : Int) (a1_1 : Int) (l1_2 : List (S29)) (l1_3 : List Int) : Option (Bool) := if a0_0 = a1_0 then (if a0_1 = a1_1 then (if (l0_2.length : Int) = (l1_2.length : Int) then (hindcastlaw17_same.j0 k ((l0_3.length : Int) != (l1_3.length : Int)) a0_0 a0_1 l0_2 l0_3 a1_0 a1_1 l1_2 l1_3) else (hindcastlaw17_same.j0 k true a0_0 a0_1 l0_2 l0_3 a1_0 a1_1 l1_2 l1_3)) else (hindcastlaw17_same.j0 k true a0_0 a0_1 l0_2 l0_3 a1_0 a1_1 l1_2 l1_3)) else (hindcastlaw17_same.j0 k true a0_0 a0_1 l0_2 l0_3 a1_0 a1_1 l1_2 l1_3)
set_option maxHeartbeats 8000000 in
set_option maxRecDepth 100000 in
theorem hindcastlaw17_same.calls (k : Nat) (a0_0 : Int) (a0_1 : Int) (A0_2 : Option Addr) (c0_2 : Nat) (l0_2 : List (S29)) (A0_3 : Option Addr) (c0_3 : Nat) (l0_3 : List Int) (a1_0 : Int) (a1_1 : Int) (A1_2 : Option Addr) (c1_2 : Nat) (l1_2 : List (S29)) (A1_3 : Option Addr) (c1_3 : Nat) (l1_3 : List Int) (r : Bool) (w : World) (hr0_2 : Kd.C k29 w A0_2 l0_2.length l0_2) (hc0_2 : l0_2.length ≤ c0_2) (hr0_3 : Kd.C (Kd.int .u64) w A0_3 l0_3.length l0_3) (hc0_3 : l0_3.length ≤ c0_3) (hr1_2 : Kd.C k29 w A1_2 l1_2.length l1_2) (hc1_2 : l1_2.length ≤ c1_2) (hr1_3 : Kd.C (Kd.int .u64) w A1_3 l1_3.length l1_3) (hc1_3 : l1_3.length ≤ c1_3) (h : hindcastlaw17_same.f k a0_0 a0_1 l0_2 l0_3 a1_0 a1_1 l1_2 l1_3 = some r) :
    Calls Tryz.prog 15 #[.agg #[.int .u64 a0_0, .int .u8 a0_1, .slice A0_2 l0_2.length c0_2, .slice A0_3 l0_3.length c0_3], .agg #[.int .u64 a1_0, .int .u8 a1_1, .slice A1_2 l1_2.length c1_2, .slice A1_3 l1_3.length c1_3]] w fun e w' => e = .returned (.bool r) ∧ Below w.heap.size w w' := by
  have hu26 := Tryz.underlying26
  have hu29 := Tryz.underlying29
  have HR0_2 := Aside0.mk hr0_2
  have HC0_2 := Aside0.mk hc0_2
  clear hr0_2 hc0_2
  have HR0_3 := Aside0.mk hr0_3
  have HC0_3 := Aside0.mk hc0_3
  clear hr0_3 hc0_3
  have HR1_2 := Aside0.mk hr1_2
  have HC1_2 := Aside0.mk hc1_2
  clear hr1_2 hc1_2
  have HR1_3 := Aside0.mk hr1_3
  have HC1_3 := Aside0.mk hc1_3
  clear hr1_3 hc1_3
  have HB := Aside0.mk (Below.refl w.heap.size w)
  have H : (if a0_0 = a1_0 then (if a0_1 = a1_1 then (if (l0_2.length : Int) = (l1_2.length : Int) then (hindcastlaw17_same.j0 k ((l0_3.length : Int) != (l1_3.length : Int)) a0_0 a0_1 l0_2 l0_3 a1_0 a1_1 l1_2 l1_3) else (hindcastlaw17_same.j0 k true a0_0 a0_1 l0_2 l0_3 a1_0 a1_1 l1_2 l1_3)) else (hindcastlaw17_same.j0 k true a0_0 a0_1 l0_2 l0_3 a1_0 a1_1 l1_2 l1_3)) else (hindcastlaw17_same.j0 k true a0_0 a0_1 l0_2 l0_3 a1_0 a1_1 l1_2 l1_3)) = some r := h
  clear h
  have HC3 := Aside0.mk H
  clear H
  go_enter Tryz.func15, Tryz.ntmps15
  go_upto_region 1 with (first | ((with_reducible refine gate_dst (N := 2) rfl ?_); (try (refine gate_guard (by rfl) ?_; dsimp only)); refine box_event ?hg (N := 2) ?hd (cs := #[.int .u64 a0_0, .int .u8 a0_1, .slice A0_2 l0_2.length c0_2, .slice A0_3 l0_3.length c0_3]) (t := 26) ?hr ?_; (case hd => rfl); (case hg => rfl); (case hr => first | (go_simp; done) | (go_simp; rfl)); intro gb208 hg w4 hbox hb; have n0_ := Aside0.mk (below_step (by repeat (first | (with_reducible first | exact HB.out | apply below_alloc | apply pw_below_drewN | apply below_drew1) | exact HB.out)) hb); have n1_ := Aside0.mk (hbox); have n2_ := Aside0.mk ((by rw [hg]; exact (below_size (by repeat (first | (with_reducible first | exact HB.out | apply below_alloc | apply pw_below_drewN | apply below_drew1) | exact HB.out))) : w.heap.size ≤ gb208)); have n3_ := Aside0.mk ((by rw [hg]; exact (below_size (by repeat (first | (with_reducible first | exact HB.out | apply below_alloc | apply pw_below_drewN | apply below_drew1) | exact HB.out))) : w.heap.size ≤ gb208)); clear HB; have HB := n0_; have BK208 := n1_; have GW208 := n2_; have GE208 := n3_; clear n0_ n1_ n2_ n3_; clear hb hbox hg) | ((with_reducible refine gate_dst (N := 3) rfl ?_); (try (refine gate_guard (by rfl) ?_; dsimp only)); refine box_event ?hg (N := 3) ?hd (cs := #[.int .u64 a1_0, .int .u8 a1_1, .slice A1_2 l1_2.length c1_2, .slice A1_3 l1_3.length c1_3]) (t := 26) ?hr ?_; (case hd => rfl); (case hg => rfl); (case hr => first | (go_simp; done) | (go_simp; rfl)); intro gb209 hg w5 hbox hb; have n0_ := Aside0.mk (blk_below (g := gb208) (o := .cells #[.int .u64 a0_0, .int .u8 a0_1, .slice A0_2 l0_2.length c0_2, .slice A0_3 l0_3.length c0_3] 26 (0, 0)) (by (with_reducible repeat (first | refine blk_drewN ?_ _ | refine blk_drew ?_ | refine blk_alloc ?_ _)); exact BK208.out) hb); have n1_ := Aside0.mk (below_step (by repeat (first | (with_reducible first | exact HB.out | apply below_alloc | apply pw_below_drewN | apply below_drew1 | refine below_set ?_ GE208.out) | exact HB.out)) hb); have n2_ := Aside0.mk (hbox); have n3_ := Aside0.mk ((by rw [hg]; exact (below_size (by repeat (first | (with_reducible first | exact HB.out | apply below_alloc | apply pw_below_drewN | apply below_drew1 | refine below_set ?_ GE208.out) | exact HB.out))) : w.heap.size ≤ gb209)); have n4_ := Aside0.mk ((by rw [hg]; exact (below_size (by repeat (first | (with_reducible first | exact HB.out | apply below_alloc | apply pw_below_drewN | apply below_drew1 | refine below_set ?_ GE208.out) | exact HB.out))) : w.heap.size ≤ gb209)); have n5_ := Aside0.mk ((by rw [hg]; exact Nat.ne_of_lt (blk_lt (g := gb208) (o := .cells #[.int .u64 a0_0, .int .u8 a0_1, .slice A0_2 l0_2.length c0_2, .slice A0_3 l0_3.length c0_3] 26 (0, 0)) (by (with_reducible repeat (first | refine blk_drewN ?_ _ | refine blk_drew ?_ | refine blk_alloc ?_ _)); exact BK208.out)) : gb208 ≠ gb209)); have n6_ := Aside0.mk ((by rw [hg]; exact Nat.ne_of_gt (blk_lt (g := gb208) (o := .cells #[.int .u64 a0_0, .int .u8 a0_1, .slice A0_2 l0_2.length c0_2, .slice A0_3 l0_3.length c0_3] 26 (0, 0)) (by (with_reducible repeat (first | refine blk_drewN ?_ _ | refine blk_drew ?_ | refine blk_alloc ?_ _)); exact BK208.out)) : gb209 ≠ gb208)); clear BK208; clear HB; have BK208 := n0_; have HB := n1_; have BK209 := n2_; have GW209 := n3_; have GE209 := n4_; have NB208_209 := n5_; have NB209_208 := n6_; clear n0_ n1_ n2_ n3_ n4_ n5_ n6_; clear hb hbox hg))
  repeat (go_quiet (first | ((with_reducible refine gate_dst (N := 2) rfl ?_); (try (refine gate_guard (by rfl) ?_; dsimp only)); refine box_event ?hg (N := 2) ?hd (cs := #[.int .u64 a0_0, .int .u8 a0_1, .slice A0_2 l0_2.length c0_2, .slice A0_3 l0_3.length c0_3]) (t := 26) ?hr ?_; (case hd => rfl); (case hg => rfl); (case hr => first | (go_simp; done) | (go_simp; rfl)); intro gb208 hg w4 hbox hb; have n0_ := Aside0.mk (below_step (by repeat (first | (with_reducible first | exact HB.out | apply below_alloc | apply pw_below_drewN | apply below_drew1) | exact HB.out)) hb); have n1_ := Aside0.mk (hbox); have n2_ := Aside0.mk ((by rw [hg]; exact (below_size (by repeat (first | (with_reducible first | exact HB.out | apply below_alloc | apply pw_below_drewN | apply below_drew1) | exact HB.out))) : w.heap.size ≤ gb208)); have n3_ := Aside0.mk ((by rw [hg]; exact (below_size (by repeat (first | (with_reducible first | exact HB.out | apply below_alloc | apply pw_below_drewN | apply below_drew1) | exact HB.out))) : w.heap.size ≤ gb208)); clear HB; have HB := n0_; have BK208 := n1_; have GW208 := n2_; have GE208 := n3_; clear n0_ n1_ n2_ n3_; clear hb hbox hg) | ((with_reducible refine gate_dst (N := 3) rfl ?_); (try (refine gate_guard (by rfl) ?_; dsimp only)); refine box_event ?hg (N := 3) ?hd (cs := #[.int .u64 a1_0, .int .u8 a1_1, .slice A1_2 l1_2.length c1_2, .slice A1_3 l1_3.length c1_3]) (t := 26) ?hr ?_; (case hd => rfl); (case hg => rfl); (case hr => first | (go_simp; done) | (go_simp; rfl)); intro gb209 hg w5 hbox hb; have n0_ := Aside0.mk (blk_below (g := gb208) (o := .cells #[.int .u64 a0_0, .int .u8 a0_1, .slice A0_2 l0_2.length c0_2, .slice A0_3 l0_3.length c0_3] 26 (0, 0)) (by (with_reducible repeat (first | refine blk_drewN ?_ _ | refine blk_drew ?_ | refine blk_alloc ?_ _)); exact BK208.out) hb); have n1_ := Aside0.mk (below_step (by repeat (first | (with_reducible first | exact HB.out | apply below_alloc | apply pw_below_drewN | apply below_drew1 | refine below_set ?_ GE208.out) | exact HB.out)) hb); have n2_ := Aside0.mk (hbox); have n3_ := Aside0.mk ((by rw [hg]; exact (below_size (by repeat (first | (with_reducible first | exact HB.out | apply below_alloc | apply pw_below_drewN | apply below_drew1 | refine below_set ?_ GE208.out) | exact HB.out))) : w.heap.size ≤ gb209)); have n4_ := Aside0.mk ((by rw [hg]; exact (below_size (by repeat (first | (with_reducible first | exact HB.out | apply below_alloc | apply pw_below_drewN | apply below_drew1 | refine below_set ?_ GE208.out) | exact HB.out))) : w.heap.size ≤ gb209)); have n5_ := Aside0.mk ((by rw [hg]; exact Nat.ne_of_lt (blk_lt (g := gb208) (o := .cells #[.int .u64 a0_0, .int .u8 a0_1, .slice A0_2 l0_2.length c0_2, .slice A0_3 l0_3.length c0_3] 26 (0, 0)) (by (with_reducible repeat (first | refine blk_drewN ?_ _ | refine blk_drew ?_ | refine blk_alloc ?_ _)); exact BK208.out)) : gb208 ≠ gb209)); have n6_ := Aside0.mk ((by rw [hg]; exact Nat.ne_of_gt (blk_lt (g := gb208) (o := .cells #[.int .u64 a0_0, .int .u8 a0_1, .slice A0_2 l0_2.length c0_2, .slice A0_3 l0_3.length c0_3] 26 (0, 0)) (by (with_reducible repeat (first | refine blk_drewN ?_ _ | refine blk_drew ?_ | refine blk_alloc ?_ _)); exact BK208.out)) : gb209 ≠ gb208)); clear BK208; clear HB; have BK208 := n0_; have HB := n1_; have BK209 := n2_; have GW209 := n3_; have GE209 := n4_; have NB208_209 := n5_; have NB209_208 := n6_; clear n0_ n1_ n2_ n3_ n4_ n5_ n6_; clear hb hbox hg)); go_upto_region 1 with (first | ((with_reducible refine gate_dst (N := 2) rfl ?_); (try (refine gate_guard (by rfl) ?_; dsimp only)); refine box_event ?hg (N := 2) ?hd (cs := #[.int .u64 a0_0, .int .u8 a0_1, .slice A0_2 l0_2.length c0_2, .slice A0_3 l0_3.length c0_3]) (t := 26) ?hr ?_; (case hd => rfl); (case hg => rfl); (case hr => first | (go_simp; done) | (go_simp; rfl)); intro gb208 hg w4 hbox hb; have n0_ := Aside0.mk (below_step (by repeat (first | (with_reducible first | exact HB.out | apply below_alloc | apply pw_below_drewN | apply below_drew1) | exact HB.out)) hb); have n1_ := Aside0.mk (hbox); have n2_ := Aside0.mk ((by rw [hg]; exact (below_size (by repeat (first | (with_reducible first | exact HB.out | apply below_alloc | apply pw_below_drewN | apply below_drew1) | exact HB.out))) : w.heap.size ≤ gb208)); have n3_ := Aside0.mk ((by rw [hg]; exact (below_size (by repeat (first | (with_reducible first | exact HB.out | apply below_alloc | apply pw_below_drewN | apply below_drew1) | exact HB.out))) : w.heap.size ≤ gb208)); clear HB; have HB := n0_; have BK208 := n1_; have GW208 := n2_; have GE208 := n3_; clear n0_ n1_ n2_ n3_; clear hb hbox hg) | ((with_reducible refine gate_dst (N := 3) rfl ?_); (try (refine gate_guard (by rfl) ?_; dsimp only)); refine box_event ?hg (N := 3) ?hd (cs := #[.int .u64 a1_0, .int .u8 a1_1, .slice A1_2 l1_2.length c1_2, .slice A1_3 l1_3.length c1_3]) (t := 26) ?hr ?_; (case hd => rfl); (case hg => rfl); (case hr => first | (go_simp; done) | (go_simp; rfl)); intro gb209 hg w5 hbox hb; have n0_ := Aside0.mk (blk_below (g := gb208) (o := .cells #[.int .u64 a0_0, .int .u8 a0_1, .slice A0_2 l0_2.length c0_2, .slice A0_3 l0_3.length c0_3] 26 (0, 0)) (by (with_reducible repeat (first | refine blk_drewN ?_ _ | refine blk_drew ?_ | refine blk_alloc ?_ _)); exact BK208.out) hb); have n1_ := Aside0.mk (below_step (by repeat (first | (with_reducible first | exact HB.out | apply below_alloc | apply pw_below_drewN | apply below_drew1 | refine below_set ?_ GE208.out) | exact HB.out)) hb); have n2_ := Aside0.mk (hbox); have n3_ := Aside0.mk ((by rw [hg]; exact (below_size (by repeat (first | (with_reducible first | exact HB.out | apply below_alloc | apply pw_below_drewN | apply below_drew1 | refine below_set ?_ GE208.out) | exact HB.out))) : w.heap.size ≤ gb209)); have n4_ := Aside0.mk ((by rw [hg]; exact (below_size (by repeat (first | (with_reducible first | exact HB.out | apply below_alloc | apply pw_below_drewN | apply below_drew1 | refine below_set ?_ GE208.out) | exact HB.out))) : w.heap.size ≤ gb209)); have n5_ := Aside0.mk ((by rw [hg]; exact Nat.ne_of_lt (blk_lt (g := gb208) (o := .cells #[.int .u64 a0_0, .int .u8 a0_1, .slice A0_2 l0_2.length c0_2, .slice A0_3 l0_3.length c0_3] 26 (0, 0)) (by (with_reducible repeat (first | refine blk_drewN ?_ _ | refine blk_drew ?_ | refine blk_alloc ?_ _)); exact BK208.out)) : gb208 ≠ gb209)); have n6_ := Aside0.mk ((by rw [hg]; exact Nat.ne_of_gt (blk_lt (g := gb208) (o := .cells #[.int .u64 a0_0, .int .u8 a0_1, .slice A0_2 l0_2.length c0_2, .slice A0_3 l0_3.length c0_3] 26 (0, 0)) (by (with_reducible repeat (first | refine blk_drewN ?_ _ | refine blk_drew ?_ | refine blk_alloc ?_ _)); exact BK208.out)) : gb209 ≠ gb208)); clear BK208; clear HB; have BK208 := n0_; have HB := n1_; have BK209 := n2_; have GW209 := n3_; have GE209 := n4_; have NB208_209 := n5_; have NB209_208 := n6_; clear n0_ n1_ n2_ n3_ n4_ n5_ n6_; clear hb hbox hg)))
  (try simp only [Act.put, List.setIfInBounds_toArray, List.set_cons_zero, List.set_cons_succ])
  go_cut [36] (fun v36 wc => ∃ (kq : Nat) (x36_2 : Bool), v36 = .bool x36_2 ∧ Aside0 (hindcastlaw17_same.j0 kq x36_2 a0_0 a0_1 l0_2 l0_3 a1_0 a1_1 l1_2 l1_3 = some r) ∧ Aside0 (kq ≤ k) ∧ Aside0 (wc.heap[gb208]? = some (.cells #[.int .u64 a0_0, .int .u8 a0_1, (.slice A0_2 l0_2.length c0_2), (.slice A0_3 l0_3.length c0_3)] 26 (0, 0))) ∧ Aside0 (wc.heap[gb209]? = some (.cells #[.int .u64 a1_0, .int .u8 a1_1, (.slice A1_2 l1_2.length c1_2), (.slice A1_3 l1_3.length c1_3)] 26 (0, 0))) ∧ Aside0 (Below w.heap.size w wc))
  case first =>
    have H := HC3.out
    clear HC3
    by_cases c6 : a0_0 = a1_0
    · rw [if_pos c6] at H
      have c6b0 : (a0_0 == a1_0) = true := beq_iff_eq.mpr c6
      have c6b1 : (a0_0 != a1_0) = false := bne_eq_false_iff_eq.mpr c6
      clear c6
      (first | rw [c6b0] | (simp only [i64_w, i32_w]; rw [c6b0]) | skip)
      by_cases c7 : a0_1 = a1_1
      · rw [if_pos c7] at H
        have c7b0 : (a0_1 == a1_1) = true := beq_iff_eq.mpr c7
        have c7b1 : (a0_1 != a1_1) = false := bne_eq_false_iff_eq.mpr c7
        clear c7
        by_cases c8 : (l0_2.length : Int) = (l1_2.length : Int)
        · rw [if_pos c8] at H
          have c8b0 : ((l0_2.length : Int) == (l1_2.length : Int)) = true := beq_iff_eq.mpr c8
          have c8b1 : ((l0_2.length : Int) != (l1_2.length : Int)) = false := bne_eq_false_iff_eq.mpr c8
          have c8b2 : (l0_2.length == l1_2.length) = true := by first | simpa using c8 | (simp at c8 ⊢; omega)
          clear c8
          have H' := Aside0.mk H
          clear H
          have hnb9 := NB208_209.out
          have hnc9 := NB209_208.out
          have hcz10_0 : w5.cell? ⟨gb208, 0, none⟩ = some (.int .u64 a0_0) := (blk_cell BK208.out 0).trans rfl
          have hcz10_1 : w5.cell? ⟨gb208, 1, none⟩ = some (.int .u8 a0_1) := (blk_cell BK208.out 1).trans rfl
          have hcz10_2 : w5.cell? ⟨gb208, 2, none⟩ = some (.slice A0_2 l0_2.length c0_2) := (blk_cell BK208.out 2).trans rfl
          have hcz10_3 : w5.cell? ⟨gb208, 3, none⟩ = some (.slice A0_3 l0_3.length c0_3) := (blk_cell BK208.out 3).trans rfl
          have hfz10_0 := blk_frozen BK208.out 0
          have hfz10_1 := blk_frozen BK208.out 1
          have hfz10_2 := blk_frozen BK208.out 2
          have hfz10_3 := blk_frozen BK208.out 3
          have hcz11_0 : w5.cell? ⟨gb209, 0, none⟩ = some (.int .u64 a1_0) := (blk_cell BK209.out 0).trans rfl
          have hcz11_1 : w5.cell? ⟨gb209, 1, none⟩ = some (.int .u8 a1_1) := (blk_cell BK209.out 1).trans rfl
          have hcz11_2 : w5.cell? ⟨gb209, 2, none⟩ = some (.slice A1_2 l1_2.length c1_2) := (blk_cell BK209.out 2).trans rfl
          have hcz11_3 : w5.cell? ⟨gb209, 3, none⟩ = some (.slice A1_3 l1_3.length c1_3) := (blk_cell BK209.out 3).trans rfl
          have hfz11_0 := blk_frozen BK209.out 0
          have hfz11_1 := blk_frozen BK209.out 1
          have hfz11_2 := blk_frozen BK209.out 2
          have hfz11_3 := blk_frozen BK209.out 3
          go_wp2
          repeat (go_quiet (fail); try go_wp2)
          go_meet
          case rel => exact ⟨_, (((l0_3.length : Int) != (l1_3.length : Int))), (by first | rfl | (simp; done) | (simp [*]; done)), H', ⟨by first | omega | exact Nat.le_refl _⟩, ⟨by (with_reducible repeat (first | refine blk_drewN ?_ _ | refine blk_drew ?_ | refine blk_alloc ?_ _)); exact BK208.out⟩, ⟨by (with_reducible repeat (first | refine blk_drewN ?_ _ | refine blk_drew ?_ | refine blk_alloc ?_ _)); exact BK209.out⟩, ⟨by repeat (first | (with_reducible first | exact HB.out | apply below_alloc | apply pw_below_drewN | apply below_drew1 | refine below_set ?_ GE208.out | refine below_set ?_ GE209.out) | exact HB.out)⟩⟩
        · rw [if_neg c8] at H
          have c8b0 : ((l0_2.length : Int) == (l1_2.length : Int)) = false := beq_eq_false_iff_ne.mpr c8
          have c8b1 : ((l0_2.length : Int) != (l1_2.length : Int)) = true := bne_iff_ne.mpr c8
          have c8b2 : (l0_2.length == l1_2.length) = false := by first | simpa using c8 | (simp at c8 ⊢; omega)
          have H' := Aside0.mk H
          clear H
          have hnb12 := NB208_209.out
          have hnc12 := NB209_208.out
          have hcz13_0 : w5.cell? ⟨gb208, 0, none⟩ = some (.int .u64 a0_0) := (blk_cell BK208.out 0).trans rfl
          have hcz13_1 : w5.cell? ⟨gb208, 1, none⟩ = some (.int .u8 a0_1) := (blk_cell BK208.out 1).trans rfl
          have hcz13_2 : w5.cell? ⟨gb208, 2, none⟩ = some (.slice A0_2 l0_2.length c0_2) := (blk_cell BK208.out 2).trans rfl
          have hcz13_3 : w5.cell? ⟨gb208, 3, none⟩ = some (.slice A0_3 l0_3.length c0_3) := (blk_cell BK208.out 3).trans rfl
          have hfz13_0 := blk_frozen BK208.out 0
          have hfz13_1 := blk_frozen BK208.out 1
          have hfz13_2 := blk_frozen BK208.out 2
          have hfz13_3 := blk_frozen BK208.out 3
          have hcz14_0 : w5.cell? ⟨gb209, 0, none⟩ = some (.int .u64 a1_0) := (blk_cell BK209.out 0).trans rfl
          have hcz14_1 : w5.cell? ⟨gb209, 1, none⟩ = some (.int .u8 a1_1) := (blk_cell BK209.out 1).trans rfl
          have hcz14_2 : w5.cell? ⟨gb209, 2, none⟩ = some (.slice A1_2 l1_2.length c1_2) := (blk_cell BK209.out 2).trans rfl
          have hcz14_3 : w5.cell? ⟨gb209, 3, none⟩ = some (.slice A1_3 l1_3.length c1_3) := (blk_cell BK209.out 3).trans rfl
          have hfz14_0 := blk_frozen BK209.out 0
          have hfz14_1 := blk_frozen BK209.out 1
          have hfz14_2 := blk_frozen BK209.out 2
          have hfz14_3 := blk_frozen BK209.out 3
          go_wp2
          repeat (go_quiet (fail); try go_wp2)
          go_meet
          case rel => exact ⟨_, (true), (by first | rfl | (simp; done) | (simp [*]; done)), H', ⟨by first | omega | exact Nat.le_refl _⟩, ⟨by (with_reducible repeat (first | refine blk_drewN ?_ _ | refine blk_drew ?_ | refine blk_alloc ?_ _)); exact BK208.out⟩, ⟨by (with_reducible repeat (first | refine blk_drewN ?_ _ | refine blk_drew ?_ | refine blk_alloc ?_ _)); exact BK209.out⟩, ⟨by repeat (first | (with_reducible first | exact HB.out | apply below_alloc | apply pw_below_drewN | apply below_drew1 | refine below_set ?_ GE208.out | refine below_set ?_ GE209.out) | exact HB.out)⟩⟩
      · rw [if_neg c7] at H
        have c7b0 : (a0_1 == a1_1) = false := beq_eq_false_iff_ne.mpr c7
        have c7b1 : (a0_1 != a1_1) = true := bne_iff_ne.mpr c7
        have H' := Aside0.mk H
        clear H
        have hnb15 := NB208_209.out
        have hnc15 := NB209_208.out
        have hcz16_0 : w5.cell? ⟨gb208, 0, none⟩ = some (.int .u64 a0_0) := (blk_cell BK208.out 0).trans rfl
        have hcz16_1 : w5.cell? ⟨gb208, 1, none⟩ = some (.int .u8 a0_1) := (blk_cell BK208.out 1).trans rfl
        have hcz16_2 : w5.cell? ⟨gb208, 2, none⟩ = some (.slice A0_2 l0_2.length c0_2) := (blk_cell BK208.out 2).trans rfl
        have hcz16_3 : w5.cell? ⟨gb208, 3, none⟩ = some (.slice A0_3 l0_3.length c0_3) := (blk_cell BK208.out 3).trans rfl
        have hfz16_0 := blk_frozen BK208.out 0
        have hfz16_1 := blk_frozen BK208.out 1
        have hfz16_2 := blk_frozen BK208.out 2
        have hfz16_3 := blk_frozen BK208.out 3
        have hcz17_0 : w5.cell? ⟨gb209, 0, none⟩ = some (.int .u64 a1_0) := (blk_cell BK209.out 0).trans rfl
        have hcz17_1 : w5.cell? ⟨gb209, 1, none⟩ = some (.int .u8 a1_1) := (blk_cell BK209.out 1).trans rfl
        have hcz17_2 : w5.cell? ⟨gb209, 2, none⟩ = some (.slice A1_2 l1_2.length c1_2) := (blk_cell BK209.out 2).trans rfl
        have hcz17_3 : w5.cell? ⟨gb209, 3, none⟩ = some (.slice A1_3 l1_3.length c1_3) := (blk_cell BK209.out 3).trans rfl
        have hfz17_0 := blk_frozen BK209.out 0
        have hfz17_1 := blk_frozen BK209.out 1
        have hfz17_2 := blk_frozen BK209.out 2
        have hfz17_3 := blk_frozen BK209.out 3
        go_wp2
        repeat (go_quiet (fail); try go_wp2)
        go_meet
        case rel => exact ⟨_, (true), (by first | rfl | (simp; done) | (simp [*]; done)), H', ⟨by first | omega | exact Nat.le_refl _⟩, ⟨by (with_reducible repeat (first | refine blk_drewN ?_ _ | refine blk_drew ?_ | refine blk_alloc ?_ _)); exact BK208.out⟩, ⟨by (with_reducible repeat (first | refine blk_drewN ?_ _ | refine blk_drew ?_ | refine blk_alloc ?_ _)); exact BK209.out⟩, ⟨by repeat (first | (with_reducible first | exact HB.out | apply below_alloc | apply pw_below_drewN | apply below_drew1 | refine below_set ?_ GE208.out | refine below_set ?_ GE209.out) | exact HB.out)⟩⟩
    · rw [if_neg c6] at H
      have c6b0 : (a0_0 == a1_0) = false := beq_eq_false_iff_ne.mpr c6
      have c6b1 : (a0_0 != a1_0) = true := bne_iff_ne.mpr c6
      (first | rw [c6b0] | (simp only [i64_w, i32_w]; rw [c6b0]) | skip)
      have H' := Aside0.mk H
      clear H
      have hnb18 := NB208_209.out
      have hnc18 := NB209_208.out
      have hcz19_0 : w5.cell? ⟨gb208, 0, none⟩ = some (.int .u64 a0_0) := (blk_cell BK208.out 0).trans rfl
      have hcz19_1 : w5.cell? ⟨gb208, 1, none⟩ = some (.int .u8 a0_1) := (blk_cell BK208.out 1).trans rfl
      have hcz19_2 : w5.cell? ⟨gb208, 2, none⟩ = some (.slice A0_2 l0_2.length c0_2) := (blk_cell BK208.out 2).trans rfl
      have hcz19_3 : w5.cell? ⟨gb208, 3, none⟩ = some (.slice A0_3 l0_3.length c0_3) := (blk_cell BK208.out 3).trans rfl
      have hfz19_0 := blk_frozen BK208.out 0
      have hfz19_1 := blk_frozen BK208.out 1
      have hfz19_2 := blk_frozen BK208.out 2
      have hfz19_3 := blk_frozen BK208.out 3
      have hcz20_0 : w5.cell? ⟨gb209, 0, none⟩ = some (.int .u64 a1_0) := (blk_cell BK209.out 0).trans rfl
      have hcz20_1 : w5.cell? ⟨gb209, 1, none⟩ = some (.int .u8 a1_1) := (blk_cell BK209.out 1).trans rfl
      have hcz20_2 : w5.cell? ⟨gb209, 2, none⟩ = some (.slice A1_2 l1_2.length c1_2) := (blk_cell BK209.out 2).trans rfl
      have hcz20_3 : w5.cell? ⟨gb209, 3, none⟩ = some (.slice A1_3 l1_3.length c1_3) := (blk_cell BK209.out 3).trans rfl
      have hfz20_0 := blk_frozen BK209.out 0
      have hfz20_1 := blk_frozen BK209.out 1
      have hfz20_2 := blk_frozen BK209.out 2
      have hfz20_3 := blk_frozen BK209.out 3
      go_wp2
      repeat (go_quiet (fail); try go_wp2)
      go_meet
      case rel => exact ⟨_, (true), (by first | rfl | (simp; done) | (simp [*]; done)), H', ⟨by first | omega | exact Nat.le_refl _⟩, ⟨by (with_reducible repeat (first | refine blk_drewN ?_ _ | refine blk_drew ?_ | refine blk_alloc ?_ _)); exact BK208.out⟩, ⟨by (with_reducible repeat (first | refine blk_drewN ?_ _ | refine blk_drew ?_ | refine blk_alloc ?_ _)); exact BK209.out⟩, ⟨by repeat (first | (with_reducible first | exact HB.out | apply below_alloc | apply pw_below_drewN | apply below_drew1 | refine below_set ?_ GE208.out | refine below_set ?_ GE209.out) | exact HB.out)⟩⟩
  case rest =>
    clear HC3
    try clear c1
    try clear p2
    try clear c6
    try clear c6b0
    try clear c6b1
    try clear c7
    try clear c7b0
    try clear c7b1
    try clear c8
    try clear c8b0
    try clear c8b1
    try clear c8b2
    try clear c9
    try clear c12
    try clear c15
    try clear c18
    try clear hcz10_0
    try clear hcz10_1
    try clear hcz10_2
    try clear hcz10_3
    try clear hcz11_0
    try clear hcz11_1
    try clear hcz11_2
    try clear hcz11_3
    try clear hcz13_0
    try clear hcz13_1
    try clear hcz13_2
    try clear hcz13_3
    try clear hcz14_0
    try clear hcz14_1
    try clear hcz14_2
    try clear hcz14_3
    try clear hcz16_0
    try clear hcz16_1
    try clear hcz16_2
    try clear hcz16_3
    try clear hcz17_0
    try clear hcz17_1
    try clear hcz17_2
    try clear hcz17_3
    try clear hcz19_0
    try clear hcz19_1
    try clear hcz19_2
    try clear hcz19_3
    try clear hcz20_0
    try clear hcz20_1
    try clear hcz20_2
    try clear hcz20_3
    try clear hfz10_0
    try clear hfz10_1
    try clear hfz10_2
    try clear hfz10_3
    try clear hfz11_0
    try clear hfz11_1
    try clear hfz11_2
    try clear hfz11_3
    try clear hfz13_0
    try clear hfz13_1
    try clear hfz13_2
    try clear hfz13_3
    try clear hfz14_0
    try clear hfz14_1
    try clear hfz14_2
    try clear hfz14_3
    try clear hfz16_0
    try clear hfz16_1
    try clear hfz16_2
    try clear hfz16_3
    try clear hfz17_0
    try clear hfz17_1
    try clear hfz17_2
    try clear hfz17_3
    try clear hfz19_0
    try clear hfz19_1
    try clear hfz19_2
    try clear hfz19_3
    try clear hfz20_0
    try clear hfz20_1
    try clear hfz20_2
    try clear hfz20_3
    obtain ⟨kq, x36_2, rfl, HA, HJ2, BK208, BK209, HB⟩ := hcut
    cases kq with
    | zero => exact absurd HA.out (by simp [hindcastlaw17_same.j0])
    | succ kj2 =>
      have H := HA.out
      clear HA
      simp only [hindcastlaw17_same.j0] at H
      by_cases c21 : x36_2 = true
      · subst c21
        have H1 : (some false) = some r := by rw [if_pos rfl] at H; exact H
        clear H
        have H := H1
        clear H1
        obtain rfl := Option.some.inj H
        go_wp2
        repeat (go_quiet (fail); try go_wp2)
        go_ret
        exact ⟨by first | rfl | (simp [errW_none, errW_some] <;> rfl) | (simp [*, errW_none, errW_some] <;> rfl), by repeat (first | (with_reducible first | exact HB.out | apply below_alloc | apply pw_below_drewN | apply below_drew1 | refine below_set ?_ GE208.out | refine below_set ?_ GE209.out) | exact HB.out)⟩
      · replace c21 := Bool.eq_false_iff.mpr c21
        subst c21
        have H1 : (hindcastlaw17_same.l0 kj2 0 a0_0 a0_1 l0_2 l0_3 a1_0 a1_1 l1_2 l1_3) = some r := by rw [if_neg (show ¬ (false = true) by decide)] at H; exact H
        clear H
        have H := H1
        clear H1
        have H' := Aside0.mk H
        clear H
        go_wp2
        repeat (go_quiet (fail); try go_wp2)
        go_loopg [5] kj2 (fun kq v5 w' => ∃ (x5_2 : Int), v5 = .int .i64 x5_2 ∧ Aside0 (hindcastlaw17_same.l0 kq x5_2 a0_0 a0_1 l0_2 l0_3 a1_0 a1_1 l1_2 l1_3 = some r) ∧ Aside0 (kq ≤ kj2) ∧ Aside0 (w'.heap[gb208]? = some (.cells #[.int .u64 a0_0, .int .u8 a0_1, (.slice A0_2 l0_2.length c0_2), (.slice A0_3 l0_3.length c0_3)] 26 (0, 0))) ∧ Aside0 (w'.heap[gb209]? = some (.cells #[.int .u64 a1_0, .int .u8 a1_1, (.slice A1_2 l1_2.length c1_2), (.slice A1_3 l1_3.length c1_3)] 26 (0, 0))) ∧ Aside0 (Below w.heap.size w w'))
        case atStart => exact ⟨(0), (by first | rfl | (simp; done) | (simp [*]; done)), H', ⟨Nat.le_refl _⟩, ⟨by (with_reducible repeat (first | refine blk_drewN ?_ _ | refine blk_drew ?_ | refine blk_alloc ?_ _)); exact BK208.out⟩, ⟨by (with_reducible repeat (first | refine blk_drewN ?_ _ | refine blk_drew ?_ | refine blk_alloc ?_ _)); exact BK209.out⟩, ⟨by repeat (first | (with_reducible first | exact HB.out | apply below_alloc | apply pw_below_drewN | apply below_drew1 | refine below_set ?_ GE208.out | refine below_set ?_ GE209.out) | exact HB.out)⟩⟩
        case round =>
          clear H'
          try clear c1
          try clear c2
          try clear p2
          try clear c6
          try clear c6b0
          try clear c6b1
          try clear c7
          try clear c7b0
          try clear c7b1
          try clear c8
          try clear c8b0
          try clear c8b1
          try clear c8b2
          try clear c9
          try clear c12
          try clear c15
          try clear c18
          try clear c21
          try clear hcz10_0
          try clear hcz10_1
          try clear hcz10_2
          try clear hcz10_3
          try clear hcz11_0
          try clear hcz11_1
          try clear hcz11_2
          try clear hcz11_3
          try clear hcz13_0
          try clear hcz13_1
          try clear hcz13_2
          try clear hcz13_3
          try clear hcz14_0
          try clear hcz14_1
          try clear hcz14_2
          try clear hcz14_3
          try clear hcz16_0
          try clear hcz16_1
          try clear hcz16_2
          try clear hcz16_3
          try clear hcz17_0
          try clear hcz17_1
          try clear hcz17_2
          try clear hcz17_3
          try clear hcz19_0
          try clear hcz19_1
          try clear hcz19_2
          try clear hcz19_3
          try clear hcz20_0
          try clear hcz20_1
          try clear hcz20_2
          try clear hcz20_3
          try clear hfz10_0
          try clear hfz10_1
          try clear hfz10_2
          try clear hfz10_3
          try clear hfz11_0
          try clear hfz11_1
          try clear hfz11_2
          try clear hfz11_3
          try clear hfz13_0
          try clear hfz13_1
          try clear hfz13_2
          try clear hfz13_3
          try clear hfz14_0
          try clear hfz14_1
          try clear hfz14_2
          try clear hfz14_3
          try clear hfz16_0
          try clear hfz16_1
          try clear hfz16_2
          try clear hfz16_3
          try clear hfz17_0
          try clear hfz17_1
          try clear hfz17_2
          try clear hfz17_3
          try clear hfz19_0
          try clear hfz19_1
          try clear hfz19_2
          try clear hfz19_3
          try clear hfz20_0
          try clear hfz20_1
          try clear hfz20_2
          try clear hfz20_3
          try clear p2
          obtain ⟨x5_2, rfl, HA, HK2, BK208, BK209, HB⟩ := hrel
          cases gk with
          | zero => exact absurd HA.out (by simp [hindcastlaw17_same.l0])
          | succ k2 =>
            have H := HA.out
            clear HA
            simp only [hindcastlaw17_same.l0] at H
            by_cases c22 : x5_2 < (l0_2.length : Int)
            · rw [if_pos c22] at H
              have c22b0 : decide (x5_2 < (l0_2.length : Int)) = true := decide_eq_true c22
              clear c22
              by_cases c23 : 0 ≤ x5_2
              · rw [if_pos c23] at H
                have c23b0 : decide (0 ≤ x5_2) = true := decide_eq_true c23
                clear c23
                by_cases c24 : x5_2 < (l1_2.length : Int)
                · rw [if_pos c24] at H
                  have c24b0 : decide (x5_2 < (l1_2.length : Int)) = true := decide_eq_true c24
                  clear c24
                  by_cases c25 : (!(((rd_T29 l0_2 x5_2).f0) == ((rd_T29 l1_2 x5_2).f0)) || (!(((rd_T29 l0_2 x5_2).f1) == ((rd_T29 l1_2 x5_2).f1)))) = true
                  · rw [if_pos c25] at H
                    have c25b0 : (!(((rd_T29 l0_2 x5_2).f0) == ((rd_T29 l1_2 x5_2).f0)) || (!(((rd_T29 l0_2 x5_2).f1) == ((rd_T29 l1_2 x5_2).f1)))) = true := c25
                    clear c25
                    obtain rfl := Option.some.inj H
                    have hnb26 := NB208_209.out
                    have hnc26 := NB209_208.out
                    have hcz27_0 : wr.cell? ⟨gb208, 0, none⟩ = some (.int .u64 a0_0) := (blk_cell BK208.out 0).trans rfl
                    have hcz27_1 : wr.cell? ⟨gb208, 1, none⟩ = some (.int .u8 a0_1) := (blk_cell BK208.out 1).trans rfl
                    have hcz27_2 : wr.cell? ⟨gb208, 2, none⟩ = some (.slice A0_2 l0_2.length c0_2) := (blk_cell BK208.out 2).trans rfl
                    have hcz27_3 : wr.cell? ⟨gb208, 3, none⟩ = some (.slice A0_3 l0_3.length c0_3) := (blk_cell BK208.out 3).trans rfl
                    have hfz27_0 := blk_frozen BK208.out 0
                    have hfz27_1 := blk_frozen BK208.out 1
                    have hfz27_2 := blk_frozen BK208.out 2
                    have hfz27_3 := blk_frozen BK208.out 3
                    have p210 : 0 ≤ (x5_2 : Int) := of_decide_eq_true (by first | (with_reducible assumption) | assumption)
                    have q210 : x5_2 < (l0_2.length : Int) := of_decide_eq_true (by first | (with_reducible assumption) | assumption)
                    obtain ⟨ad210, e210, hx210_0, hx210_1⟩ := at_T29 HR0_2.out x5_2 p210 q210
                    cases e210
                    replace hx210_0 := (HB.out.cell (World.block_lt_of_cell? w _ hx210_0)).trans hx210_0
                    replace hx210_1 := (HB.out.cell (World.block_lt_of_cell? w _ hx210_1)).trans hx210_1
                    replace p210 := eq_true p210
                    replace q210 := eq_true q210
                    have hcz28_0 : wr.cell? ⟨gb209, 0, none⟩ = some (.int .u64 a1_0) := (blk_cell BK209.out 0).trans rfl
                    have hcz28_1 : wr.cell? ⟨gb209, 1, none⟩ = some (.int .u8 a1_1) := (blk_cell BK209.out 1).trans rfl
                    have hcz28_2 : wr.cell? ⟨gb209, 2, none⟩ = some (.slice A1_2 l1_2.length c1_2) := (blk_cell BK209.out 2).trans rfl
                    have hcz28_3 : wr.cell? ⟨gb209, 3, none⟩ = some (.slice A1_3 l1_3.length c1_3) := (blk_cell BK209.out 3).trans rfl
                    have hfz28_0 := blk_frozen BK209.out 0
                    have hfz28_1 := blk_frozen BK209.out 1
                    have hfz28_2 := blk_frozen BK209.out 2
                    have hfz28_3 := blk_frozen BK209.out 3
                    have p211 : 0 ≤ (x5_2 : Int) := of_decide_eq_true (by first | (with_reducible assumption) | assumption)
                    have q211 : x5_2 < (l1_2.length : Int) := of_decide_eq_true (by first | (with_reducible assumption) | assumption)
                    obtain ⟨ad211, e211, hx211_0, hx211_1⟩ := at_T29 HR1_2.out x5_2 p211 q211
                    cases e211
                    replace hx211_0 := (HB.out.cell (World.block_lt_of_cell? w _ hx211_0)).trans hx211_0
                    replace hx211_1 := (HB.out.cell (World.block_lt_of_cell? w _ hx211_1)).trans hx211_1
                    replace p211 := eq_true p211
                    replace q211 := eq_true q211
                    go_wp2
                    repeat (go_quiet (fail); try go_wp2)
                    go_ret
                    exact ⟨by first | rfl | (simp [errW_none, errW_some] <;> rfl) | (simp [*, errW_none, errW_some] <;> rfl), by repeat (first | (with_reducible first | exact HB.out | apply below_alloc | apply pw_below_drewN | apply below_drew1 | refine below_set ?_ GE208.out | refine below_set ?_ GE209.out) | exact HB.out)⟩
                  · rw [if_neg c25] at H
                    have c25b0 : (!(((rd_T29 l0_2 x5_2).f0) == ((rd_T29 l1_2 x5_2).f0)) || (!(((rd_T29 l0_2 x5_2).f1) == ((rd_T29 l1_2 x5_2).f1)))) = false := by simpa using c25
                    clear c25
                    have H' := Aside0.mk H
                    clear H
                    have hnb29 := NB208_209.out
                    have hnc29 := NB209_208.out
                    have hcz30_0 : wr.cell? ⟨gb208, 0, none⟩ = some (.int .u64 a0_0) := (blk_cell BK208.out 0).trans rfl
                    have hcz30_1 : wr.cell? ⟨gb208, 1, none⟩ = some (.int .u8 a0_1) := (blk_cell BK208.out 1).trans rfl
                    have hcz30_2 : wr.cell? ⟨gb208, 2, none⟩ = some (.slice A0_2 l0_2.length c0_2) := (blk_cell BK208.out 2).trans rfl
                    have hcz30_3 : wr.cell? ⟨gb208, 3, none⟩ = some (.slice A0_3 l0_3.length c0_3) := (blk_cell BK208.out 3).trans rfl
                    have hfz30_0 := blk_frozen BK208.out 0
                    have hfz30_1 := blk_frozen BK208.out 1
                    have hfz30_2 := blk_frozen BK208.out 2
                    have hfz30_3 := blk_frozen BK208.out 3
                    have p210 : 0 ≤ (x5_2 : Int) := of_decide_eq_true (by first | (with_reducible assumption) | assumption)
                    have q210 : x5_2 < (l0_2.length : Int) := of_decide_eq_true (by first | (with_reducible assumption) | assumption)
                    obtain ⟨ad210, e210, hx210_0, hx210_1⟩ := at_T29 HR0_2.out x5_2 p210 q210
                    cases e210
                    replace hx210_0 := (HB.out.cell (World.block_lt_of_cell? w _ hx210_0)).trans hx210_0
                    replace hx210_1 := (HB.out.cell (World.block_lt_of_cell? w _ hx210_1)).trans hx210_1
                    replace p210 := eq_true p210
                    replace q210 := eq_true q210
                    have hcz31_0 : wr.cell? ⟨gb209, 0, none⟩ = some (.int .u64 a1_0) := (blk_cell BK209.out 0).trans rfl
                    have hcz31_1 : wr.cell? ⟨gb209, 1, none⟩ = some (.int .u8 a1_1) := (blk_cell BK209.out 1).trans rfl
                    have hcz31_2 : wr.cell? ⟨gb209, 2, none⟩ = some (.slice A1_2 l1_2.length c1_2) := (blk_cell BK209.out 2).trans rfl
                    have hcz31_3 : wr.cell? ⟨gb209, 3, none⟩ = some (.slice A1_3 l1_3.length c1_3) := (blk_cell BK209.out 3).trans rfl
                    have hfz31_0 := blk_frozen BK209.out 0
                    have hfz31_1 := blk_frozen BK209.out 1
                    have hfz31_2 := blk_frozen BK209.out 2
                    have hfz31_3 := blk_frozen BK209.out 3
                    have p211 : 0 ≤ (x5_2 : Int) := of_decide_eq_true (by first | (with_reducible assumption) | assumption)
                    have q211 : x5_2 < (l1_2.length : Int) := of_decide_eq_true (by first | (with_reducible assumption) | assumption)
                    obtain ⟨ad211, e211, hx211_0, hx211_1⟩ := at_T29 HR1_2.out x5_2 p211 q211
                    cases e211
                    replace hx211_0 := (HB.out.cell (World.block_lt_of_cell? w _ hx211_0)).trans hx211_0
                    replace hx211_1 := (HB.out.cell (World.block_lt_of_cell? w _ hx211_1)).trans hx211_1
                    replace p211 := eq_true p211
                    replace q211 := eq_true q211
                    go_wp2
                    repeat (go_quiet (fail); try go_wp2)
                    go_roundg k2
                    case measure => have := HJ2.out; have := HK2.out; omega
                    case rel => exact ⟨(wrap64 (x5_2 + 1)), (by first | rfl | (simp; done) | (simp [*]; done)), H', ⟨by have := HJ2.out; have := HK2.out; omega⟩, ⟨by (with_reducible repeat (first | refine blk_drewN ?_ _ | refine blk_drew ?_ | refine blk_alloc ?_ _)); exact BK208.out⟩, ⟨by (with_reducible repeat (first | refine blk_drewN ?_ _ | refine blk_drew ?_ | refine blk_alloc ?_ _)); exact BK209.out⟩, ⟨by repeat (first | (with_reducible first | exact HB.out | apply below_alloc | apply pw_below_drewN | apply below_drew1 | refine below_set ?_ GE208.out | refine below_set ?_ GE209.out) | exact HB.out)⟩⟩
                · rw [if_neg c24] at H
                  exact absurd H (by simp)
              · rw [if_neg c23] at H
                exact absurd H (by simp)
            · rw [if_neg c22] at H
              have c22b0 : decide (x5_2 < (l0_2.length : Int)) = false := decide_eq_false c22
              clear c22
              have H' := Aside0.mk H
              clear H
              have hnb32 := NB208_209.out
              have hnc32 := NB209_208.out
              have hcz33_0 : wr.cell? ⟨gb208, 0, none⟩ = some (.int .u64 a0_0) := (blk_cell BK208.out 0).trans rfl
              have hcz33_1 : wr.cell? ⟨gb208, 1, none⟩ = some (.int .u8 a0_1) := (blk_cell BK208.out 1).trans rfl
              have hcz33_2 : wr.cell? ⟨gb208, 2, none⟩ = some (.slice A0_2 l0_2.length c0_2) := (blk_cell BK208.out 2).trans rfl
              have hcz33_3 : wr.cell? ⟨gb208, 3, none⟩ = some (.slice A0_3 l0_3.length c0_3) := (blk_cell BK208.out 3).trans rfl
              have hfz33_0 := blk_frozen BK208.out 0
              have hfz33_1 := blk_frozen BK208.out 1
              have hfz33_2 := blk_frozen BK208.out 2
              have hfz33_3 := blk_frozen BK208.out 3
              go_wp2
              repeat (go_quiet (fail); try go_wp2)
              go_loopg [6] k2 (fun kq v6 w' => ∃ (x6_3 : Int), v6 = .int .i64 x6_3 ∧ Aside0 (hindcastlaw17_same.l1 kq x6_3 a0_0 a0_1 l0_2 l0_3 a1_0 a1_1 l1_2 l1_3 = some r) ∧ Aside0 (kq ≤ k2) ∧ Aside0 (w'.heap[gb208]? = some (.cells #[.int .u64 a0_0, .int .u8 a0_1, (.slice A0_2 l0_2.length c0_2), (.slice A0_3 l0_3.length c0_3)] 26 (0, 0))) ∧ Aside0 (w'.heap[gb209]? = some (.cells #[.int .u64 a1_0, .int .u8 a1_1, (.slice A1_2 l1_2.length c1_2), (.slice A1_3 l1_3.length c1_3)] 26 (0, 0))) ∧ Aside0 (Below w.heap.size w w'))
              case atStart => exact ⟨(0), (by first | rfl | (simp; done) | (simp [*]; done)), H', ⟨Nat.le_refl _⟩, ⟨by (with_reducible repeat (first | refine blk_drewN ?_ _ | refine blk_drew ?_ | refine blk_alloc ?_ _)); exact BK208.out⟩, ⟨by (with_reducible repeat (first | refine blk_drewN ?_ _ | refine blk_drew ?_ | refine blk_alloc ?_ _)); exact BK209.out⟩, ⟨by repeat (first | (with_reducible first | exact HB.out | apply below_alloc | apply pw_below_drewN | apply below_drew1 | refine below_set ?_ GE208.out | refine below_set ?_ GE209.out) | exact HB.out)⟩⟩
              case round =>
                clear H'
                try clear c1
                try clear c2
                try clear p2
                try clear q2
                try clear hx2
                try clear c3
                try clear c6
                try clear c6b0
                try clear c6b1
                try clear p6
                try clear c7
                try clear c7b0
                try clear c7b1
                try clear c8
                try clear c8b0
                try clear c8b1
                try clear c8b2
                try clear c9
                try clear c12
                try clear c15
                try clear c18
                try clear c21
                try clear p21
                try clear q21
                try clear hx21
                try clear c22
                try clear c22b0
                try clear c23
                try clear c23b0
                try clear c24
                try clear c24b0
                try clear c25
                try clear c25b0
                try clear c26
                try clear c29
                try clear c32
                try clear hcz10_0
                try clear hcz10_1
                try clear hcz10_2
                try clear hcz10_3
                try clear hcz11_0
                try clear hcz11_1
                try clear hcz11_2
                try clear hcz11_3
                try clear hcz13_0
                try clear hcz13_1
                try clear hcz13_2
                try clear hcz13_3
                try clear hcz14_0
                try clear hcz14_1
                try clear hcz14_2
                try clear hcz14_3
                try clear hcz16_0
                try clear hcz16_1
                try clear hcz16_2
                try clear hcz16_3
                try clear hcz17_0
                try clear hcz17_1
                try clear hcz17_2
                try clear hcz17_3
                try clear hcz19_0
                try clear hcz19_1
                try clear hcz19_2
                try clear hcz19_3
                try clear hcz20_0
                try clear hcz20_1
                try clear hcz20_2
                try clear hcz20_3
                try clear hcz27_0
                try clear hcz27_1
                try clear hcz27_2
                try clear hcz27_3
                try clear hcz28_0
                try clear hcz28_1
                try clear hcz28_2
                try clear hcz28_3
                try clear hcz30_0
                try clear hcz30_1
                try clear hcz30_2
                try clear hcz30_3
                try clear hcz31_0
                try clear hcz31_1
                try clear hcz31_2
                try clear hcz31_3
                try clear hcz33_0
                try clear hcz33_1
                try clear hcz33_2
                try clear hcz33_3
                try clear hfz10_0
                try clear hfz10_1
                try clear hfz10_2
                try clear hfz10_3
                try clear hfz11_0
                try clear hfz11_1
                try clear hfz11_2
                try clear hfz11_3
                try clear hfz13_0
                try clear hfz13_1
                try clear hfz13_2
                try clear hfz13_3
                try clear hfz14_0
                try clear hfz14_1
                try clear hfz14_2
                try clear hfz14_3
                try clear hfz16_0
                try clear hfz16_1
                try clear hfz16_2
                try clear hfz16_3
                try clear hfz17_0
                try clear hfz17_1
                try clear hfz17_2
                try clear hfz17_3
                try clear hfz19_0
                try clear hfz19_1
                try clear hfz19_2
                try clear hfz19_3
                try clear hfz20_0
                try clear hfz20_1
                try clear hfz20_2
                try clear hfz20_3
                try clear hfz27_0
                try clear hfz27_1
                try clear hfz27_2
                try clear hfz27_3
                try clear hfz28_0
                try clear hfz28_1
                try clear hfz28_2
                try clear hfz28_3
                try clear hfz30_0
                try clear hfz30_1
                try clear hfz30_2
                try clear hfz30_3
                try clear hfz31_0
                try clear hfz31_1
                try clear hfz31_2
                try clear hfz31_3
                try clear hfz33_0
                try clear hfz33_1
                try clear hfz33_2
                try clear hfz33_3
                try clear hx210_0
                try clear hx210_1
                try clear hx211_0
                try clear hx211_1
                try clear p2
                try clear p210
                try clear p211
                try clear q210
                try clear q211
                obtain ⟨x6_3, rfl, HA, HK3, BK208, BK209, HB⟩ := hrel
                cases gk with
                | zero => exact absurd HA.out (by simp [hindcastlaw17_same.l1])
                | succ k3 =>
                  have H := HA.out
                  clear HA
                  simp only [hindcastlaw17_same.l1] at H
                  by_cases c34 : x6_3 < (l0_3.length : Int)
                  · rw [if_pos c34] at H
                    have c34b0 : decide (x6_3 < (l0_3.length : Int)) = true := decide_eq_true c34
                    clear c34
                    by_cases c35 : 0 ≤ x6_3
                    · rw [if_pos c35] at H
                      have c35b0 : decide (0 ≤ x6_3) = true := decide_eq_true c35
                      clear c35
                      by_cases c36 : x6_3 < (l1_3.length : Int)
                      · rw [if_pos c36] at H
                        have c36b0 : decide (x6_3 < (l1_3.length : Int)) = true := decide_eq_true c36
                        clear c36
                        by_cases c37 : (rd l0_3 x6_3) = (rd l1_3 x6_3)
                        · rw [if_pos c37] at H
                          have c37b0 : ((rd l0_3 x6_3) == (rd l1_3 x6_3)) = true := beq_iff_eq.mpr c37
                          have c37b1 : ((rd l0_3 x6_3) != (rd l1_3 x6_3)) = false := bne_eq_false_iff_eq.mpr c37
                          clear c37
                          have H' := Aside0.mk H
                          clear H
                          have hnb38 := NB208_209.out
                          have hnc38 := NB209_208.out
                          have hcz39_0 : wr.cell? ⟨gb208, 0, none⟩ = some (.int .u64 a0_0) := (blk_cell BK208.out 0).trans rfl
                          have hcz39_1 : wr.cell? ⟨gb208, 1, none⟩ = some (.int .u8 a0_1) := (blk_cell BK208.out 1).trans rfl
                          have hcz39_2 : wr.cell? ⟨gb208, 2, none⟩ = some (.slice A0_2 l0_2.length c0_2) := (blk_cell BK208.out 2).trans rfl
                          have hcz39_3 : wr.cell? ⟨gb208, 3, none⟩ = some (.slice A0_3 l0_3.length c0_3) := (blk_cell BK208.out 3).trans rfl
                          have hfz39_0 := blk_frozen BK208.out 0
                          have hfz39_1 := blk_frozen BK208.out 1
                          have hfz39_2 := blk_frozen BK208.out 2
                          have hfz39_3 := blk_frozen BK208.out 3
                          have p212 : 0 ≤ (x6_3 : Int) := of_decide_eq_true (by first | (with_reducible assumption) | assumption)
                          have q212 : x6_3 < (l0_3.length : Int) := of_decide_eq_true (by first | (with_reducible assumption) | assumption)
                          obtain ⟨ad212, e212, hx212_0⟩ := Kd.at_int HR0_3.out x6_3 p212 q212
                          cases e212
                          replace hx212_0 := (HB.out.cell (World.block_lt_of_cell? w _ hx212_0)).trans hx212_0
                          replace p212 := eq_true p212
                          replace q212 := eq_true q212
                          have hcz40_0 : wr.cell? ⟨gb209, 0, none⟩ = some (.int .u64 a1_0) := (blk_cell BK209.out 0).trans rfl
                          have hcz40_1 : wr.cell? ⟨gb209, 1, none⟩ = some (.int .u8 a1_1) := (blk_cell BK209.out 1).trans rfl
                          have hcz40_2 : wr.cell? ⟨gb209, 2, none⟩ = some (.slice A1_2 l1_2.length c1_2) := (blk_cell BK209.out 2).trans rfl
                          have hcz40_3 : wr.cell? ⟨gb209, 3, none⟩ = some (.slice A1_3 l1_3.length c1_3) := (blk_cell BK209.out 3).trans rfl
                          have hfz40_0 := blk_frozen BK209.out 0
                          have hfz40_1 := blk_frozen BK209.out 1
                          have hfz40_2 := blk_frozen BK209.out 2
                          have hfz40_3 := blk_frozen BK209.out 3
                          have p213 : 0 ≤ (x6_3 : Int) := of_decide_eq_true (by first | (with_reducible assumption) | assumption)
                          have q213 : x6_3 < (l1_3.length : Int) := of_decide_eq_true (by first | (with_reducible assumption) | assumption)
                          obtain ⟨ad213, e213, hx213_0⟩ := Kd.at_int HR1_3.out x6_3 p213 q213
                          cases e213
                          replace hx213_0 := (HB.out.cell (World.block_lt_of_cell? w _ hx213_0)).trans hx213_0
                          replace p213 := eq_true p213
                          replace q213 := eq_true q213
                          go_wp2
                          repeat (go_quiet (fail); try go_wp2)
                          go_roundg k3
                          case measure => have := HJ2.out; have := HK2.out; have := HK3.out; omega
                          case rel => exact ⟨(wrap64 (x6_3 + 1)), (by first | rfl | (simp; done) | (simp [*]; done)), H', ⟨by have := HJ2.out; have := HK2.out; have := HK3.out; omega⟩, ⟨by (with_reducible repeat (first | refine blk_drewN ?_ _ | refine blk_drew ?_ | refine blk_alloc ?_ _)); exact BK208.out⟩, ⟨by (with_reducible repeat (first | refine blk_drewN ?_ _ | refine blk_drew ?_ | refine blk_alloc ?_ _)); exact BK209.out⟩, ⟨by repeat (first | (with_reducible first | exact HB.out | apply below_alloc | apply pw_below_drewN | apply below_drew1 | refine below_set ?_ GE208.out | refine below_set ?_ GE209.out) | exact HB.out)⟩⟩
                        · rw [if_neg c37] at H
                          have c37b0 : ((rd l0_3 x6_3) == (rd l1_3 x6_3)) = false := beq_eq_false_iff_ne.mpr c37
                          have c37b1 : ((rd l0_3 x6_3) != (rd l1_3 x6_3)) = true := bne_iff_ne.mpr c37
                          obtain rfl := Option.some.inj H
                          have hnb41 := NB208_209.out
                          have hnc41 := NB209_208.out
                          have hcz42_0 : wr.cell? ⟨gb208, 0, none⟩ = some (.int .u64 a0_0) := (blk_cell BK208.out 0).trans rfl
                          have hcz42_1 : wr.cell? ⟨gb208, 1, none⟩ = some (.int .u8 a0_1) := (blk_cell BK208.out 1).trans rfl
                          have hcz42_2 : wr.cell? ⟨gb208, 2, none⟩ = some (.slice A0_2 l0_2.length c0_2) := (blk_cell BK208.out 2).trans rfl
                          have hcz42_3 : wr.cell? ⟨gb208, 3, none⟩ = some (.slice A0_3 l0_3.length c0_3) := (blk_cell BK208.out 3).trans rfl
                          have hfz42_0 := blk_frozen BK208.out 0
                          have hfz42_1 := blk_frozen BK208.out 1
                          have hfz42_2 := blk_frozen BK208.out 2
                          have hfz42_3 := blk_frozen BK208.out 3
                          have p212 : 0 ≤ (x6_3 : Int) := of_decide_eq_true (by first | (with_reducible assumption) | assumption)
                          have q212 : x6_3 < (l0_3.length : Int) := of_decide_eq_true (by first | (with_reducible assumption) | assumption)
                          obtain ⟨ad212, e212, hx212_0⟩ := Kd.at_int HR0_3.out x6_3 p212 q212
                          cases e212
                          replace hx212_0 := (HB.out.cell (World.block_lt_of_cell? w _ hx212_0)).trans hx212_0
                          replace p212 := eq_true p212
                          replace q212 := eq_true q212
                          have hcz43_0 : wr.cell? ⟨gb209, 0, none⟩ = some (.int .u64 a1_0) := (blk_cell BK209.out 0).trans rfl
                          have hcz43_1 : wr.cell? ⟨gb209, 1, none⟩ = some (.int .u8 a1_1) := (blk_cell BK209.out 1).trans rfl
                          have hcz43_2 : wr.cell? ⟨gb209, 2, none⟩ = some (.slice A1_2 l1_2.length c1_2) := (blk_cell BK209.out 2).trans rfl
                          have hcz43_3 : wr.cell? ⟨gb209, 3, none⟩ = some (.slice A1_3 l1_3.length c1_3) := (blk_cell BK209.out 3).trans rfl
                          have hfz43_0 := blk_frozen BK209.out 0
                          have hfz43_1 := blk_frozen BK209.out 1
                          have hfz43_2 := blk_frozen BK209.out 2
                          have hfz43_3 := blk_frozen BK209.out 3
                          have p213 : 0 ≤ (x6_3 : Int) := of_decide_eq_true (by first | (with_reducible assumption) | assumption)
                          have q213 : x6_3 < (l1_3.length : Int) := of_decide_eq_true (by first | (with_reducible assumption) | assumption)
                          obtain ⟨ad213, e213, hx213_0⟩ := Kd.at_int HR1_3.out x6_3 p213 q213
                          cases e213
                          replace hx213_0 := (HB.out.cell (World.block_lt_of_cell? w _ hx213_0)).trans hx213_0
                          replace p213 := eq_true p213
                          replace q213 := eq_true q213
                          go_wp2
                          repeat (go_quiet (fail); try go_wp2)
                          go_ret
                          exact ⟨by first | rfl | (simp [errW_none, errW_some] <;> rfl) | (simp [*, errW_none, errW_some] <;> rfl), by repeat (first | (with_reducible first | exact HB.out | apply below_alloc | apply pw_below_drewN | apply below_drew1 | refine below_set ?_ GE208.out | refine below_set ?_ GE209.out) | exact HB.out)⟩
                      · rw [if_neg c36] at H
                        exact absurd H (by simp)
                    · rw [if_neg c35] at H
                      exact absurd H (by simp)
                  · rw [if_neg c34] at H
                    have c34b0 : decide (x6_3 < (l0_3.length : Int)) = false := decide_eq_false c34
                    clear c34
                    obtain rfl := Option.some.inj H
                    have hnb44 := NB208_209.out
                    have hnc44 := NB209_208.out
                    have hcz45_0 : wr.cell? ⟨gb208, 0, none⟩ = some (.int .u64 a0_0) := (blk_cell BK208.out 0).trans rfl
                    have hcz45_1 : wr.cell? ⟨gb208, 1, none⟩ = some (.int .u8 a0_1) := (blk_cell BK208.out 1).trans rfl
                    have hcz45_2 : wr.cell? ⟨gb208, 2, none⟩ = some (.slice A0_2 l0_2.length c0_2) := (blk_cell BK208.out 2).trans rfl
                    have hcz45_3 : wr.cell? ⟨gb208, 3, none⟩ = some (.slice A0_3 l0_3.length c0_3) := (blk_cell BK208.out 3).trans rfl
                    have hfz45_0 := blk_frozen BK208.out 0
                    have hfz45_1 := blk_frozen BK208.out 1
                    have hfz45_2 := blk_frozen BK208.out 2
                    have hfz45_3 := blk_frozen BK208.out 3
                    go_wp2
                    repeat (go_quiet (fail); try go_wp2)
                    go_ret
                    exact ⟨by first | rfl | (simp [errW_none, errW_some] <;> rfl) | (simp [*, errW_none, errW_some] <;> rfl), by repeat (first | (with_reducible first | exact HB.out | apply below_alloc | apply pw_below_drewN | apply below_drew1 | refine below_set ?_ GE208.out | refine below_set ?_ GE209.out) | exact HB.out)⟩
end Go.Proofs.YtbffgpfkgmhmhaaGreatDoor.HM
