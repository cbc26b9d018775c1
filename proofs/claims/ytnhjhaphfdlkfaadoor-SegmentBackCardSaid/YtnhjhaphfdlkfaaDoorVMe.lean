/- SegmentBack, walked. -/
import Derived.Test.YtnhjhaphfdlkfaaDoorVMd
set_option linter.unusedVariables false
set_option linter.unusedSimpArgs false
namespace Go.Proofs.YtnhjhaphfdlkfaaDoor.Sg
open Go.RowKit Go.Proofs.YtnhjhaphfdlkfaaDoor.HF Go.Proofs.YtnhjhaphfdlkfaaDoor.SB Go.Proofs.YtnhjhaphfdlkfaaDoorW.PrintWords Go.Proofs.YtnhjhaphfdlkfaaDoorW.PrintLast Go.Proofs.YtnhjhaphfdlkfaaDoorW.PrintMore
theorem q_base {w : World} {base base' n size : Nat} {e : TypeId} {v : Value} {xs : List Value} (h : QRow w base e size v n xs) (hb : base' ≤ base) : QRow w base' e size v n xs := by
  obtain ⟨h1, h2⟩ := h
  refine ⟨h1, ?_⟩
  rcases h2 with ⟨h0, A, e1, hA⟩ | ⟨g, off, cap, cur, e1, hg, r⟩
  · exact Or.inl ⟨h0, A, e1, fun a ha => by obtain ⟨h3, h4⟩ := hA a ha; exact ⟨Nat.le_trans hb h3, h4⟩⟩
  · exact Or.inr ⟨g, off, cap, cur, e1, Nat.le_trans hb hg, r⟩
structure BkB (w W : World) (rs : List Rec) (v5 : Value) (E : List Int) (v7 : Value) : Prop where
  q5 : QRow W w.heap.size 51 9 v5 rs.length (flatR rs)
  q7 : QRow W w.heap.size 3 1 v7 E.length (nums .i64 E)
  below : Below w.heap.size w W
section
variable {w W W1 : World} {rs : List Rec} {v5 v7 : Value} {E : List Int}
theorem bk_kept (h : BkB w W rs v5 E v7) (hk : Kept W W1 (fun _ => False)) (hB : Below w.heap.size w W1) : BkB w W1 rs v5 E v7 :=
  ⟨q_move h.q5 (fun k e => hk.2 k (q_lt h.q5 k e) (fun h => h)), q_move h.q7 (fun k e => hk.2 k (q_lt h.q7 k e) (fun h => h)), hB⟩
theorem bk_below (h : BkB w W rs v5 E v7) (hB : Below W.heap.size W W1) : BkB w W1 rs v5 E v7 := bk_kept h (Kept.of_below hB _) (h.below.trans (hB.mono h.below.size))
theorem bk_alloc (h : BkB w W rs v5 E v7) (ob : Obj) : BkB w (W.alloc ob) rs v5 E v7 := bk_kept h ((Kept.refl W _).alloc ob) (h.below.alloc h.below.size ob)
theorem bk_app (h : BkB w W rs v5 E v7) (u : Int) {v2 : Value} (hq : QRow W1 w.heap.size 3 1 v2 (E.length + 1) (nums .i64 E ++ [.int .i64 u])) (hg : W.grownBy W1 v7.ownBlock) : BkB w W1 rs v5 (E ++ [u]) v2 := by
  refine ⟨q_other h.q5 h.q7 (by decide) hg, ?_, h.below.grown hg h.below.size (fun k hk => (q_typed h.q7 k hk).1)⟩
  rw [List.length_append, show nums .i64 (E ++ [u]) = nums .i64 E ++ [.int .i64 u] by simp [nums]]; exact hq
end
theorem info3 : (Tryd.prog.info? 3).map (fun i => (i.zero, i.size, i.bytes)) = some (some (.int .i64 0), 1, 8) := by kernel_rfl
theorem cut_is (cut : Int) (L : Nat) (h : 0 ≤ cut ∧ cut < 65536) : ∃ kk : Nat, kk ≤ L ∧ cut % ((L : Int) + 1) = (kk : Int) := by
  have h1 := Int.emod_lt_of_pos cut (show 0 < (L : Int) + 1 by omega)
  have h2 := Int.emod_nonneg cut (show (L : Int) + 1 ≠ 0 by omega)
  generalize cut % ((L : Int) + 1) = z at *
  exact ⟨z.toNat, by omega, by omega⟩
theorem pos_succ (jj : Nat) : decide ((0 : Int) < (jj : Int) + 1) = true := decide_eq_true (by omega)
theorem wrap_run (jj n : Nat) (h : jj < n) (h2 : n ≤ 300) : IntKind.i64.wrap (jj : Int) = (jj : Int) := IntWalk.i64_in _ ⟨by omega, by omega⟩
theorem wrap_next (i n : Nat) (h : i + 1 < n) (h2 : n ≤ 300) : IntKind.i64.wrap ((i : Int) + 1) = (i : Int) + 1 := IntWalk.i64_in _ ⟨by omega, by omega⟩
theorem run_same (jj : Nat) : (if 0 < jj then (jj : Int) else 0) = (jj : Int) := by
  by_cases h : 0 < jj
  · rw [if_pos h]
  · rw [if_neg h]; have : jj = 0 := by omega
    subst this; rfl
theorem eq_self51 (r : Rec) (w : World) : (Op.equalIn 10000 51 (.agg #[.int .i64 r.kind, .int .u64 r.frame, .int .u8 r.own, .int .u8 r.p0, .int .u8 r.p1, .int .u64 r.seg, .int .u64 r.first, .int .u64 r.epoch, .int .u8 r.player]) (.agg #[.int .i64 r.kind, .int .u64 r.frame, .int .u8 r.own, .int .u8 r.p0, .int .u8 r.p1, .int .u64 r.seg, .int .u64 r.first, .int .u64 r.epoch, .int .u8 r.player])).run Tryd.prog w = .ok true w := by
  have := eqA51 9997 w r r
  rw [show decide (r = r) = true from decide_eq_true rfl] at this
  exact this
theorem beq_ne (a b : Nat) (h : ¬ a = b) : ((a : Int) == (b : Int)) = false := by simp; omega
theorem beq_eq (a b : Nat) (h : a = b) : ((a : Int) == (b : Int)) = true := by simp [h]
def endsL (rs : List Rec) (i : Nat) : List Int := (List.range i).map fun j => ((putsL (rs.take (j + 1))).length : Int)
theorem endsL_succ (rs : List Rec) (i : Nat) : endsL rs (i + 1) = endsL rs i ++ [((putsL (rs.take (i + 1))).length : Int)] := by
  unfold endsL
  rw [List.range_succ, List.map_append]; rfl
theorem endsL_len (rs : List Rec) (i : Nat) : (endsL rs i).length = i := by simp [endsL]
theorem endsL_at (rs : List Rec) (i j : Nat) (h : j < i) : (nums .i64 (endsL rs i))[j]? = some (.int .i64 ((putsL (rs.take (j + 1))).length : Int)) := by
  simp [nums, endsL, h]
theorem puts_step (rs : List Rec) (a : Nat) (h : a < rs.length) : (putsL (rs.take a)).length < (putsL (rs.take (a + 1))).length := by
  rw [putsL_take rs a h, List.length_append, recB_len]; omega
theorem puts_mono (rs : List Rec) (a b : Nat) (h : a ≤ b) (hb : b ≤ rs.length) : (putsL (rs.take a)).length ≤ (putsL (rs.take b)).length := by
  induction b with
  | zero => have : a = 0 := by omega
            subst this; exact Nat.le_refl _
  | succ b ih =>
    by_cases hab : a = b + 1
    · subst hab; exact Nat.le_refl _
    · have := ih (by omega) (by omega)
      have := puts_step rs b (by omega)
      omega
/-- How many of the records are whole in the first k bytes: it is one number. -/
theorem whole_one (rs : List Rec) (k a b : Nat) (ha : a ≤ rs.length) (hb : b ≤ rs.length) (h1 : (putsL (rs.take a)).length ≤ k) (h2 : a < rs.length → k < (putsL (rs.take (a + 1))).length) (h3 : (putsL (rs.take b)).length ≤ k) (h4 : b < rs.length → k < (putsL (rs.take (b + 1))).length) : a = b := by
  rcases Nat.lt_trichotomy a b with h | h | h
  · have := h2 (by omega)
    have := puts_mono rs (a + 1) b (by omega) hb
    omega
  · exact h
  · have := h4 (by omega)
    have := puts_mono rs (b + 1) a (by omega) ha
    omega
set_option maxHeartbeats 4000000 in
set_option maxRecDepth 100000 in
theorem back_calls (w : World) (HL : Lay w) (p f : Int) (A : Option Addr) (c : Nat) (xs : List Int) (cut : Int) (hp : 0 ≤ p ∧ p < 256) (hf : 0 ≤ f ∧ f < 18446744073709551616) (hcut : 0 ≤ cut ∧ cut < 65536) (hxs : ∀ x ∈ xs, 0 ≤ x ∧ x < 65536)
    (hcell : ∀ (j : Nat) (h : j < xs.length), ∃ ad, A = some ad ∧ w.cell? (ad.add j) = some (.int .u16 xs[j])) :
    Calls Tryd.prog 7 #[.agg #[.int .u8 p, .int .u64 f, .slice A xs.length c], .int .u16 cut] w fun e w' => e = .returned (.bool true) ∧ Below w.heap.size w w' := by
  have HLy := Lib.hid HL
  by_cases h100 : 100 < xs.length
  · have d : decide (100 < (xs.length : Int)) = true := decide_eq_true (by omega)
    have HB1 := Lib.hid ((Below.refl w.heap.size w).alloc (Nat.le_refl _) (.cells #[.int .u8 p, .int .u64 f, .slice A xs.length c] 64))
    clear HL hcell hxs
    go_enter Tryd.func7, Tryd.ntmps7
    go_wp2_with fail
    refine (works_calls _ (Crc.laid_below HLy.out HB1.out)).mono ?_
    rintro e w1 ⟨rfl, hB⟩
    have HB2 := Lib.hid (HB1.out.trans (hB.mono HB1.out.size))
    go_wp2
    go_ret
    exact ⟨rfl, HB2.out⟩
  · have d : decide (100 < (xs.length : Int)) = false := decide_eq_false (by omega)
    have HB1 := Lib.hid ((Below.refl w.heap.size w).alloc (Nat.le_refl _) (.cells #[.int .u8 p, .int .u64 f, .slice A xs.length c] 64))
    have HMk := Lib.hid (made_calls (w.alloc (.cells #[.int .u8 p, .int .u64 f, .slice A xs.length c] 64)) p f A c xs hp hf hxs (by omega) (fun j h => by obtain ⟨ad, e, hc⟩ := hcell j h; exact ⟨ad, e, cell_below hc HB1.out⟩))
    clear HL hcell hxs h100
    go_enter Tryd.func7, Tryd.ntmps7
    go_wp2_with fail
    refine HMk.out.mono ?_
    rintro e w1 ⟨v5, rs, x, rfl, hq5, hF, hne, hl300, hB1⟩
    have HF := Lib.hid hF
    have HMy := Lib.hid hF.mays
    have HB := Lib.hid (show BkB w w1 rs v5 (endsL rs 0) (.slice none 0 0) from ⟨q_base hq5 HB1.out.size, ⟨rfl, Or.inl ⟨rfl, none, rfl, by simp⟩⟩, HB1.out.trans (hB1.mono HB1.out.size)⟩)
    obtain ⟨A5, c5, rfl, _⟩ := q_slice hq5
    clear hF hq5 hB1 HB1 HMk
    go_wp2_with fail
    go_loopw [6, 7, 8] (fun t6 t7 t8 wr => ∃ i : Nat, i ≤ rs.length ∧ t8 = .int .i64 i ∧ t6 = .string (bs (putsL (rs.take i))) ∧ BkB w wr rs (.slice A5 rs.length c5) (endsL rs i) t7) (fun _ _ t8 _ => rs.length - (intOf t8).toNat)
    case atStart => exact ⟨0, by omega, rfl, rfl, HB.out⟩
    case round =>
      obtain ⟨i, hi, rfl, rfl, hB⟩ := hrel
      obtain ⟨A7, c7, rfl, _⟩ := q_slice hB.q7
      have hEl := endsL_len rs i
      have HBi := Lib.hid hB
      clear hB HB
      by_cases hlt : i < rs.length
      · have hltb : decide ((i : Int) < (rs.length : Int)) = true := decide_eq_true (by omega)
        have hk0 : 0 ≤ (i : Int) := by omega
        obtain ⟨⟨bo, fo, po⟩, rfl, hco⟩ := q_cells HBi.out.q5 (by omega)
        have r0 : wr.cell? ((⟨bo, fo, po⟩ : Addr).add (i * 9)) = some (.int .i64 (rs[i]).kind) := hco _ _ (flatR_at rs i hlt 0 (by omega))
        have r1 : wr.cell? ⟨((⟨bo, fo, po⟩ : Addr).add (i * 9)).block, ((⟨bo, fo, po⟩ : Addr).add (i * 9)).off + 1, none⟩ = some (.int .u64 (rs[i]).frame) := (show wr.cell? (((⟨bo, fo, po⟩ : Addr).add (i * 9)).add 1) = _ by rw [Addr.add_add]; exact hco _ _ (flatR_at rs i hlt 1 (by omega)))
        have r2 : wr.cell? ⟨((⟨bo, fo, po⟩ : Addr).add (i * 9)).block, ((⟨bo, fo, po⟩ : Addr).add (i * 9)).off + 2, none⟩ = some (.int .u8 (rs[i]).own) := (show wr.cell? (((⟨bo, fo, po⟩ : Addr).add (i * 9)).add 2) = _ by rw [Addr.add_add]; exact hco _ _ (flatR_at rs i hlt 2 (by omega)))
        have r3 : wr.cell? ⟨((⟨bo, fo, po⟩ : Addr).add (i * 9)).block, ((⟨bo, fo, po⟩ : Addr).add (i * 9)).off + 3, none⟩ = some (.int .u8 (rs[i]).p0) := (show wr.cell? (((⟨bo, fo, po⟩ : Addr).add (i * 9)).add 3) = _ by rw [Addr.add_add]; exact hco _ _ (flatR_at rs i hlt 3 (by omega)))
        have r4 : wr.cell? ⟨((⟨bo, fo, po⟩ : Addr).add (i * 9)).block, ((⟨bo, fo, po⟩ : Addr).add (i * 9)).off + 4, none⟩ = some (.int .u8 (rs[i]).p1) := (show wr.cell? (((⟨bo, fo, po⟩ : Addr).add (i * 9)).add 4) = _ by rw [Addr.add_add]; exact hco _ _ (flatR_at rs i hlt 4 (by omega)))
        have r5 : wr.cell? ⟨((⟨bo, fo, po⟩ : Addr).add (i * 9)).block, ((⟨bo, fo, po⟩ : Addr).add (i * 9)).off + 5, none⟩ = some (.int .u64 (rs[i]).seg) := (show wr.cell? (((⟨bo, fo, po⟩ : Addr).add (i * 9)).add 5) = _ by rw [Addr.add_add]; exact hco _ _ (flatR_at rs i hlt 5 (by omega)))
        have r6 : wr.cell? ⟨((⟨bo, fo, po⟩ : Addr).add (i * 9)).block, ((⟨bo, fo, po⟩ : Addr).add (i * 9)).off + 6, none⟩ = some (.int .u64 (rs[i]).first) := (show wr.cell? (((⟨bo, fo, po⟩ : Addr).add (i * 9)).add 6) = _ by rw [Addr.add_add]; exact hco _ _ (flatR_at rs i hlt 6 (by omega)))
        have r7 : wr.cell? ⟨((⟨bo, fo, po⟩ : Addr).add (i * 9)).block, ((⟨bo, fo, po⟩ : Addr).add (i * 9)).off + 7, none⟩ = some (.int .u64 (rs[i]).epoch) := (show wr.cell? (((⟨bo, fo, po⟩ : Addr).add (i * 9)).add 7) = _ by rw [Addr.add_add]; exact hco _ _ (flatR_at rs i hlt 7 (by omega)))
        have r8 : wr.cell? ⟨((⟨bo, fo, po⟩ : Addr).add (i * 9)).block, ((⟨bo, fo, po⟩ : Addr).add (i * 9)).off + 8, none⟩ = some (.int .u8 (rs[i]).player) := (show wr.cell? (((⟨bo, fo, po⟩ : Addr).add (i * 9)).add 8) = _ by rw [Addr.add_add]; exact hco _ _ (flatR_at rs i hlt 8 (by omega)))
        have hpt := Lib.hid (putsL_take rs i hlt)
        have HM := Lib.hid (HMy.out _ (List.getElem_mem hlt))
        have hle := putsL_le (rs.take (i + 1))
        rw [List.length_take] at hle
        clear hco
        generalize rs[i] = r at *
        have hjoin : bs (putsL (rs.take i)) ++ bs (recB r) = bs (putsL (rs.take (i + 1))) := by rw [hpt.out, bs_append]
        have hcat : ¬ 9223372036854775807 < (bs (putsL (rs.take i))).size + (bs (recB r)).size := by
          have := congrArg ByteArray.size hjoin
          rw [ByteArray.size_append, bs_size (putsL (rs.take (i + 1)))] at this
          omega
        have HP := Lib.hid (fun (W : World) (h : QRow (W.alloc (.cells r.cells 51)) W.heap.size 51 9 (.slice (some ⟨W.heap.size, 0, none⟩) 1 1) 1 (flatR [r])) (HW : Lay (W.alloc (.cells r.cells 51))) => (show Calls Tryd.prog 25 #[.slice (some ⟨W.heap.size, 0, none⟩) 1 1] (W.alloc (.cells r.cells 51)) (fun e w' => e = .returned (.string (bs (recB r))) ∧ Below (W.alloc (.cells r.cells 51)).heap.size (W.alloc (.cells r.cells 51)) w') from by have hh := put25_calls (W.alloc (.cells r.cells 51)) HW W.heap.size _ [r] h (by intro q hq; simp at hq; subst hq; exact HM.out) (by simp); rw [show putsL [r] = recB r by simp [putsL]] at hh; exact hh))
        go_wp2_with fail
        have HB2 := Lib.hid (bk_alloc HBi.out (.cells r.cells 51))
        refine (HP.out wr (q_new wr wr.heap.size (Nat.le_refl _) [r] (by simp)) (Crc.laid_below HLy.out HB2.out.below)).mono ?_
        rintro e w3 ⟨rfl, hB3⟩
        have HB3 := Lib.hid (bk_below HB2.out hB3)
        clear hB3 HB2 HP HBi r0 r1 r2 r3 r4 r5 r6 r7 r8
        have hsz : ((bs (putsL (rs.take (i + 1)))).size : Int) = ((putsL (rs.take (i + 1))).length : Int) := by rw [bs_size]
        go_wp2_with (first | ((with_reducible refine gate_app (t := 67) rfl ?_); refine q_app_list w.heap.size rfl (.tmp 38) (.tmp 41) 67 3 (.int .i64 0) 1 8 rfl Tryd.underlying67 info3 rfl (by decide) (by decide) (.slice A7 i c7) i (nums .i64 (endsL rs i)) ⟨w3.heap.size, 0, none⟩ 1 1 [.int .i64 ((putsL (rs.take (i + 1))).length : Int)] rfl rfl (by decide) rfl (news_blk (cs := #[.int .i64 ((putsL (rs.take (i + 1))).length : Int)]) (heap_alloc_new w3 _)) (by intro u hu; simp at hu; subst hu; rfl) (by have hz := (bk_alloc HB3.out (.cells #[.int .i64 ((putsL (rs.take (i + 1))).length : Int)] 3)).q7; rw [hEl] at hz; exact hz) (by have := HB3.out.below.size; simp; omega) (by omega) ?_; intro v_ w4 hq hgr hat; have HB4 := Lib.hid (bk_app (bk_alloc HB3.out (.cells #[.int .i64 ((putsL (rs.take (i + 1))).length : Int)] 3)) ((putsL (rs.take (i + 1))).length : Int) (by rw [hEl]; exact hq) (by rw [hEl]; exact hgr)); obtain ⟨AM, cM, hv_, _⟩ := q_slice hq; subst hv_; clear hq hgr hat))
        exact ⟨⟨i + 1, by omega, by go_num, rfl, by rw [endsL_succ]; exact HB4.out⟩, by simp [intOf]; omega⟩
      · have hltb : decide ((i : Int) < (rs.length : Int)) = false := decide_eq_false (by omega)
        have hil : i = rs.length := by omega
        subst hil
        rw [List.take_length]
        have hle := putsL_le rs
        have hsz : ((bs (putsL rs)).size : Int) = ((putsL rs).length : Int) := by rw [bs_size]
        go_wp2_with fail
        obtain ⟨kk, hkk, hke⟩ := cut_is cut (putsL rs).length hcut
        rw [hke]
        rw [hEl]
        rw [hEl] at *
        have HE := Lib.hid (show ∀ j, j < rs.length → (nums .i64 (endsL rs rs.length))[j]? = some (.int .i64 ((putsL (rs.take (j + 1))).length : Int)) from fun j h => endsL_at rs rs.length j h)
        have HLe := Lib.hid (show (putsL rs).length ≤ 100000 by omega)
        clear hke hle hEl
        go_loopw [10, 11] (fun t10 t11 wz => ∃ j : Nat, j ≤ rs.length ∧ t10 = .int .i64 j ∧ t11 = .int .i64 ((putsL (rs.take j)).length : Int) ∧ (putsL (rs.take j)).length ≤ kk ∧ wz = wr) (fun t10 _ _ => rs.length - (intOf t10).toNat)
        case atStart => exact ⟨0, by omega, rfl, rfl, by simp [putsL], rfl⟩
        case round =>
          obtain ⟨j, hj, rfl, rfl, hjk, rfl⟩ := hrel
          by_cases hlt : j < rs.length
          · have hltb : decide ((j : Int) < (rs.length : Int)) = true := decide_eq_true (by omega)
            have hk0 : 0 ≤ (j : Int) := by omega
            have hq7 : QRow wr w.heap.size 3 1 (.slice A7 rs.length c7) rs.length (nums .i64 (endsL rs rs.length)) := by have := HBi.out.q7; rw [endsL_len] at this; exact this
            obtain ⟨⟨bp, fp, pp⟩, rfl, hcp⟩ := q_cells hq7 (by omega)
            have e0 := hcp j _ (HE.out j hlt)
            clear hcp
            by_cases hin : (putsL (rs.take (j + 1))).length ≤ kk
            · have d2 : decide (((putsL (rs.take (j + 1))).length : Int) ≤ (kk : Int)) = true := decide_eq_true (by omega)
              go_wp2
              exact ⟨⟨j + 1, by omega, by go_num, rfl, hin, trivial⟩, by simp [intOf]; omega⟩
            · have d2 : decide (((putsL (rs.take (j + 1))).length : Int) ≤ (kk : Int)) = false := decide_eq_false (by omega)
              have hex : j < rs.length → kk < (putsL (rs.take (j + 1))).length := fun _ => by omega
              clear hq7 hin
              go_wp2_with fail
              obtain ⟨j2, xj, g1, g2, g3, g4, g5⟩ := scan_puts 1 HF.out kk hkk
              have hjj : j = j2 := whole_one rs kk j j2 hj g1 hjk hex g3 g4
              subst hjj
              have HSc := scan_calls wr 1 ((putsL rs).take kk) (by rw [List.length_take]; have := HLe.out; omega) (Crc.laid_below HLy.out HBi.out.below)
              rw [g5] at HSc
              have hgx : (bs (putsL rs)).extract 0 kk = bs ((putsL rs).take kk) := by rw [bs_extract]; rfl
              rw [hgx]
              have hfew : xj.l.length ≤ 100000 := by have := scan_few 1 ((putsL rs).take kk) (by rw [List.length_take]; have := HLe.out; omega); rw [g5] at this; exact this
              clear g3 g4 g5 hex hjk hgx HE e0 d2
              generalize hN : (putsL (rs.take j)).length = N at *
              have dgood : ((N : Int) != (N : Int)) = false := by simp
              by_cases hj0 : j = 0
              · subst hj0
                cases g2
                have hN0 : N = 0 := by rw [← hN]; rfl
                subst hN0
                have HSc := Lib.hid (show Calls Tryd.prog 20 #[.string (bs ((putsL rs).take kk)), .int .u64 1] wr (fun e w' => ∃ vl, e = .returned (.tuple #[Rec.zero.val, vl, .int .i64 0, .int .i64 10]) ∧ QRow w' wr.heap.size 51 9 vl 0 [] ∧ Below wr.heap.size wr w') by simpa [Sc.start, flatR] using HSc)
                by_cases hz : kk = 0
                · have dz : ((0 : Int) == (kk : Int)) = true := by simp [hz]
                  refine HSc.out.mono ?_
                  rintro e w2 ⟨v13, rfl, hq13, hB2⟩
                  obtain ⟨A13, c13, rfl, _⟩ := q_slice hq13
                  have HB2 := Lib.hid (HBi.out.below.trans (hB2.mono HBi.out.below.size))
                  clear HSc hq13 hB2
                  go_wp2_with (first | ((with_reducible refine gate_store (t := 51) (p := 12) rfl ?_); refine store_rec rfl 51 (.tmp 12) (.tmp 72) rfl info51 w2.heap.size 51 Rec.zero Rec.zero rfl rfl (heap_alloc_new w2 (.cells Rec.zero.cells 51)) ?_; intro w3 hz3 hk3 hb3; have HZ3 := Lib.hid hz3; have HB3 := Lib.hid (hb3 w.heap.size w HB2.out.size (HB2.out.alloc HB2.out.size _)); clear hz3 hk3 hb3))
                  go_quiet (fail)
                  go_wp2_with fail
                  go_loopw [16] (fun t16 wz => t16 = .int .i64 0 ∧ wz = w3.drewN nq) (fun _ _ => 0)
                  case atStart => exact ⟨rfl, rfl⟩
                  case round =>
                    obtain ⟨rfl, rfl⟩ := hrel
                    have HB4 := Lib.hid (pw_below_drewN HB3.out nq)
                    go_wp2_with fail
                    refine (works_calls _ (Crc.laid_below HLy.out HB4.out)).mono ?_
                    rintro e w5 ⟨rfl, hB5⟩
                    have HB5 := Lib.hid (HB4.out.trans (hB5.mono HB4.out.size))
                    go_wp2
                    go_ret
                    exact ⟨rfl, HB5.out⟩
                · have dz : ((0 : Int) == (kk : Int)) = false := by simp; omega
                  refine HSc.out.mono ?_
                  rintro e w2 ⟨v13, rfl, hq13, hB2⟩
                  obtain ⟨A13, c13, rfl, _⟩ := q_slice hq13
                  have HB2 := Lib.hid (HBi.out.below.trans (hB2.mono HBi.out.below.size))
                  clear HSc hq13 hB2
                  go_wp2_with (first | ((with_reducible refine gate_store (t := 51) (p := 12) rfl ?_); refine store_rec rfl 51 (.tmp 12) (.tmp 72) rfl info51 w2.heap.size 51 Rec.zero Rec.zero rfl rfl (heap_alloc_new w2 (.cells Rec.zero.cells 51)) ?_; intro w3 hz3 hk3 hb3; have HZ3 := Lib.hid hz3; have HB3 := Lib.hid (hb3 w.heap.size w HB2.out.size (HB2.out.alloc HB2.out.size _)); clear hz3 hk3 hb3))
                  go_quiet (fail)
                  go_wp2_with fail
                  go_loopw [16] (fun t16 wz => t16 = .int .i64 0 ∧ wz = w3.drewN nq) (fun _ _ => 0)
                  case atStart => exact ⟨rfl, rfl⟩
                  case round =>
                    obtain ⟨rfl, rfl⟩ := hrel
                    have HB4 := Lib.hid (pw_below_drewN HB3.out nq)
                    go_wp2_with fail
                    refine (works_calls _ (Crc.laid_below HLy.out HB4.out)).mono ?_
                    rintro e w5 ⟨rfl, hB5⟩
                    have HB5 := Lib.hid (HB4.out.trans (hB5.mono HB4.out.size))
                    go_wp2
                    go_ret
                    exact ⟨rfl, HB5.out⟩
              · obtain ⟨r0, m, hrs⟩ := List.exists_cons_of_ne_nil hne
                obtain ⟨jj, rfl⟩ : ∃ jj, j = jj + 1 := ⟨j - 1, by omega⟩
                have hjm : jj ≤ m.length := by rw [hrs] at hj; simpa using hj
                rw [hrs, List.take_succ_cons] at g2
                obtain ⟨hy1, hy2, hy3, hy4, hhd, hlx, hbg⟩ := feed_start g2
                clear hy1 hy2 hy3
                have hlen : xj.l.length = jj := by rw [hlx, List.length_take]; omega
                clear hy4
                have HQr := Lib.hid (show QRow wr w.heap.size 51 9 (.slice A5 rs.length c5) rs.length (flatR rs) from HBi.out.q5)
                have hr0 : ∀ (h : 0 < rs.length), rs[0] = r0 := fun h => by simp [hrs]
                have HNx := Lib.hid (show ∀ (i : Nat) (h1 : i < jj) (h2 : i + 1 < rs.length), (rs[i + 1] : Rec) = (m[i]'(by omega)) from fun i h1 h2 => by simp [hrs])
                have hrl : jj < rs.length := by rw [hrs]; simp; omega
                rw [hhd] at HSc
                rw [hlx] at HSc
                clear g1 g2 hhd hfew hj0 hrs hne
                by_cases hz : N = kk
                · rw [if_pos ⟨hz, hbg⟩] at HSc
                  have HSc := Lib.hid HSc
                  have dz := beq_eq N kk hz
                  clear hlx hbg
                  have djp := pos_succ jj
                  have dmx := run_same jj
                  have dmw := wrap_run jj rs.length hrl hl300
                  have h0r : 0 < rs.length := Nat.lt_of_le_of_lt (Nat.zero_le _) hrl
                  have h0i : (0 : Int) < (rs.length : Int) := Int.natCast_pos.2 h0r
                  have h1i : (1 : Int) ≤ (rs.length : Int) := h0i
                  have heq := eq_self51 r0
                  refine HSc.out.mono ?_
                  rintro e w2 ⟨v13, rfl, hq13, hB2⟩
                  have hln : (m.take jj).length = jj := by rw [List.length_take, Nat.min_eq_left hjm]
                  obtain ⟨A13, c13, rfl, _⟩ := q_slice hq13
                  rw [hln]
                  rw [hln] at hq13
                  have HQ13 := Lib.hid hq13
                  have HQ2 := Lib.hid (q_below HQr.out hB2)
                  have HB2 := Lib.hid (HBi.out.below.trans (hB2.mono HBi.out.below.size))
                  clear HSc hq13 hB2 hln
                  go_wp2_with (first | ((with_reducible refine gate_store (t := 51) (p := 12) rfl ?_); refine store_rec rfl 51 (.tmp 12) (.tmp 72) rfl info51 w2.heap.size 51 r0 Rec.zero rfl rfl (heap_alloc_new w2 (.cells Rec.zero.cells 51)) ?_; intro w3 hz3 hk3 hb3; have HZ3 := Lib.hid hz3; have HB3 := Lib.hid (hb3 w.heap.size w HB2.out.size (HB2.out.alloc HB2.out.size _)); have HK3 := Lib.hid hk3; have HR3 := Lib.hid (q_move (q_alloc HQ2.out (.cells Rec.zero.cells 51)) (fun k e => hk3.2 k (q_lt (q_alloc HQ2.out (.cells Rec.zero.cells 51)) k e) (fun e2 => Nat.lt_irrefl _ (Nat.lt_of_lt_of_eq (q_lt HQ2.out k e) e2.symm)))); have HG3 := Lib.hid (q_move (q_alloc HQ13.out (.cells Rec.zero.cells 51)) (fun k e => hk3.2 k (q_lt (q_alloc HQ13.out (.cells Rec.zero.cells 51)) k e) (fun e2 => Nat.lt_irrefl _ (Nat.lt_of_lt_of_eq (q_lt HQ13.out k e) e2.symm)))); obtain ⟨⟨bo, fo, po⟩, hA5, hco⟩ := q_cells HR3.out h0r; subst hA5; have z0 : w3.cell? ⟨bo, fo, po⟩ = some (.int .i64 r0.kind) := (hco 0 _ (by rw [show (0 : Nat) = 0 * 9 + 0 from rfl, flatR_at rs 0 h0r 0 (by decide), hr0]; rfl)); have z1 : w3.cell? ⟨bo, fo + 1, none⟩ = some (.int .u64 r0.frame) := (hco 1 _ (by rw [show (1 : Nat) = 0 * 9 + 1 from rfl, flatR_at rs 0 h0r 1 (by decide), hr0]; rfl)); have z2 : w3.cell? ⟨bo, fo + 2, none⟩ = some (.int .u8 r0.own) := (hco 2 _ (by rw [show (2 : Nat) = 0 * 9 + 2 from rfl, flatR_at rs 0 h0r 2 (by decide), hr0]; rfl)); have z3 : w3.cell? ⟨bo, fo + 3, none⟩ = some (.int .u8 r0.p0) := (hco 3 _ (by rw [show (3 : Nat) = 0 * 9 + 3 from rfl, flatR_at rs 0 h0r 3 (by decide), hr0]; rfl)); have z4 : w3.cell? ⟨bo, fo + 4, none⟩ = some (.int .u8 r0.p1) := (hco 4 _ (by rw [show (4 : Nat) = 0 * 9 + 4 from rfl, flatR_at rs 0 h0r 4 (by decide), hr0]; rfl)); have z5 : w3.cell? ⟨bo, fo + 5, none⟩ = some (.int .u64 r0.seg) := (hco 5 _ (by rw [show (5 : Nat) = 0 * 9 + 5 from rfl, flatR_at rs 0 h0r 5 (by decide), hr0]; rfl)); have z6 : w3.cell? ⟨bo, fo + 6, none⟩ = some (.int .u64 r0.first) := (hco 6 _ (by rw [show (6 : Nat) = 0 * 9 + 6 from rfl, flatR_at rs 0 h0r 6 (by decide), hr0]; rfl)); have z7 : w3.cell? ⟨bo, fo + 7, none⟩ = some (.int .u64 r0.epoch) := (hco 7 _ (by rw [show (7 : Nat) = 0 * 9 + 7 from rfl, flatR_at rs 0 h0r 7 (by decide), hr0]; rfl)); have z8 : w3.cell? ⟨bo, fo + 8, none⟩ = some (.int .u8 r0.player) := (hco 8 _ (by rw [show (8 : Nat) = 0 * 9 + 8 from rfl, flatR_at rs 0 h0r 8 (by decide), hr0]; rfl)); have s0 : w3.cell? ⟨w2.heap.size, 0, none⟩ = some (.int .i64 r0.kind) := blk_cell HZ3.out 0; have s1 : w3.cell? ⟨w2.heap.size, 1, none⟩ = some (.int .u64 r0.frame) := blk_cell HZ3.out 1; have s2 : w3.cell? ⟨w2.heap.size, 2, none⟩ = some (.int .u8 r0.own) := blk_cell HZ3.out 2; have s3 : w3.cell? ⟨w2.heap.size, 3, none⟩ = some (.int .u8 r0.p0) := blk_cell HZ3.out 3; have s4 : w3.cell? ⟨w2.heap.size, 4, none⟩ = some (.int .u8 r0.p1) := blk_cell HZ3.out 4; have s5 : w3.cell? ⟨w2.heap.size, 5, none⟩ = some (.int .u64 r0.seg) := blk_cell HZ3.out 5; have s6 : w3.cell? ⟨w2.heap.size, 6, none⟩ = some (.int .u64 r0.first) := blk_cell HZ3.out 6; have s7 : w3.cell? ⟨w2.heap.size, 7, none⟩ = some (.int .u64 r0.epoch) := blk_cell HZ3.out 7; have s8 : w3.cell? ⟨w2.heap.size, 8, none⟩ = some (.int .u8 r0.player) := blk_cell HZ3.out 8; clear hco; clear hz3 hk3 hb3))
                  go_quiet (fail)
                  go_wp2_with fail
                  go_loopw [16] (fun t16 wz => ∃ i n : Nat, i ≤ jj ∧ t16 = .int .i64 i ∧ wz = w3.drewN n) (fun t16 _ => jj - (intOf t16).toNat)
                  case atStart => exact ⟨0, nq, Nat.zero_le _, rfl, rfl⟩
                  case round =>
                    obtain ⟨i, n, hi, rfl, rfl⟩ := hrel
                    by_cases hlt : i < jj
                    · have hltb : decide ((i : Int) < (jj : Int)) = true := decide_eq_true (by omega)
                      have hk0 : 0 ≤ (i : Int) := by omega
                      have hln : (m.take jj).length = jj := by rw [List.length_take, Nat.min_eq_left hjm]
                      have hlg : i < (m.take jj).length := by rw [hln]; exact hlt
                      have hl5 : i + 1 < rs.length := Nat.lt_of_le_of_lt hlt hrl
                      have hge : (m.take jj)[i] = rs[i + 1] := by rw [HNx.out i hlt hl5, List.getElem_take]
                      obtain ⟨⟨bg, fg, pg⟩, hA13, hcg⟩ := q_cells HG3.out (Nat.lt_of_le_of_lt (Nat.zero_le _) hlt)
                      subst hA13
                      obtain ⟨⟨bq, fq, pq⟩, hA5, hcq⟩ := q_cells HR3.out h0r
                      cases hA5
                      have g0 : w3.cell? ((⟨bg, fg, pg⟩ : Addr).add (i * 9)) = some (.int .i64 ((m.take jj)[i]).kind) := hcg _ _ (flatR_at (m.take jj) i hlg 0 (by omega))
                      have g1 : w3.cell? ⟨((⟨bg, fg, pg⟩ : Addr).add (i * 9)).block, ((⟨bg, fg, pg⟩ : Addr).add (i * 9)).off + 1, none⟩ = some (.int .u64 ((m.take jj)[i]).frame) := (show w3.cell? (((⟨bg, fg, pg⟩ : Addr).add (i * 9)).add 1) = _ by rw [Addr.add_add]; exact hcg _ _ (flatR_at (m.take jj) i hlg 1 (by omega)))
                      have g2 : w3.cell? ⟨((⟨bg, fg, pg⟩ : Addr).add (i * 9)).block, ((⟨bg, fg, pg⟩ : Addr).add (i * 9)).off + 2, none⟩ = some (.int .u8 ((m.take jj)[i]).own) := (show w3.cell? (((⟨bg, fg, pg⟩ : Addr).add (i * 9)).add 2) = _ by rw [Addr.add_add]; exact hcg _ _ (flatR_at (m.take jj) i hlg 2 (by omega)))
                      have g3 : w3.cell? ⟨((⟨bg, fg, pg⟩ : Addr).add (i * 9)).block, ((⟨bg, fg, pg⟩ : Addr).add (i * 9)).off + 3, none⟩ = some (.int .u8 ((m.take jj)[i]).p0) := (show w3.cell? (((⟨bg, fg, pg⟩ : Addr).add (i * 9)).add 3) = _ by rw [Addr.add_add]; exact hcg _ _ (flatR_at (m.take jj) i hlg 3 (by omega)))
                      have g4 : w3.cell? ⟨((⟨bg, fg, pg⟩ : Addr).add (i * 9)).block, ((⟨bg, fg, pg⟩ : Addr).add (i * 9)).off + 4, none⟩ = some (.int .u8 ((m.take jj)[i]).p1) := (show w3.cell? (((⟨bg, fg, pg⟩ : Addr).add (i * 9)).add 4) = _ by rw [Addr.add_add]; exact hcg _ _ (flatR_at (m.take jj) i hlg 4 (by omega)))
                      have g5 : w3.cell? ⟨((⟨bg, fg, pg⟩ : Addr).add (i * 9)).block, ((⟨bg, fg, pg⟩ : Addr).add (i * 9)).off + 5, none⟩ = some (.int .u64 ((m.take jj)[i]).seg) := (show w3.cell? (((⟨bg, fg, pg⟩ : Addr).add (i * 9)).add 5) = _ by rw [Addr.add_add]; exact hcg _ _ (flatR_at (m.take jj) i hlg 5 (by omega)))
                      have g6 : w3.cell? ⟨((⟨bg, fg, pg⟩ : Addr).add (i * 9)).block, ((⟨bg, fg, pg⟩ : Addr).add (i * 9)).off + 6, none⟩ = some (.int .u64 ((m.take jj)[i]).first) := (show w3.cell? (((⟨bg, fg, pg⟩ : Addr).add (i * 9)).add 6) = _ by rw [Addr.add_add]; exact hcg _ _ (flatR_at (m.take jj) i hlg 6 (by omega)))
                      have g7 : w3.cell? ⟨((⟨bg, fg, pg⟩ : Addr).add (i * 9)).block, ((⟨bg, fg, pg⟩ : Addr).add (i * 9)).off + 7, none⟩ = some (.int .u64 ((m.take jj)[i]).epoch) := (show w3.cell? (((⟨bg, fg, pg⟩ : Addr).add (i * 9)).add 7) = _ by rw [Addr.add_add]; exact hcg _ _ (flatR_at (m.take jj) i hlg 7 (by omega)))
                      have g8 : w3.cell? ⟨((⟨bg, fg, pg⟩ : Addr).add (i * 9)).block, ((⟨bg, fg, pg⟩ : Addr).add (i * 9)).off + 8, none⟩ = some (.int .u8 ((m.take jj)[i]).player) := (show w3.cell? (((⟨bg, fg, pg⟩ : Addr).add (i * 9)).add 8) = _ by rw [Addr.add_add]; exact hcg _ _ (flatR_at (m.take jj) i hlg 8 (by omega)))
                      have y0 : w3.cell? ((⟨bo, fo, po⟩ : Addr).add ((i + 1) * 9)) = some (.int .i64 (rs[(i + 1)]).kind) := hcq _ _ (flatR_at rs (i + 1) hl5 0 (by omega))
                      have y1 : w3.cell? ⟨((⟨bo, fo, po⟩ : Addr).add ((i + 1) * 9)).block, ((⟨bo, fo, po⟩ : Addr).add ((i + 1) * 9)).off + 1, none⟩ = some (.int .u64 (rs[(i + 1)]).frame) := (show w3.cell? (((⟨bo, fo, po⟩ : Addr).add ((i + 1) * 9)).add 1) = _ by rw [Addr.add_add]; exact hcq _ _ (flatR_at rs (i + 1) hl5 1 (by omega)))
                      have y2 : w3.cell? ⟨((⟨bo, fo, po⟩ : Addr).add ((i + 1) * 9)).block, ((⟨bo, fo, po⟩ : Addr).add ((i + 1) * 9)).off + 2, none⟩ = some (.int .u8 (rs[(i + 1)]).own) := (show w3.cell? (((⟨bo, fo, po⟩ : Addr).add ((i + 1) * 9)).add 2) = _ by rw [Addr.add_add]; exact hcq _ _ (flatR_at rs (i + 1) hl5 2 (by omega)))
                      have y3 : w3.cell? ⟨((⟨bo, fo, po⟩ : Addr).add ((i + 1) * 9)).block, ((⟨bo, fo, po⟩ : Addr).add ((i + 1) * 9)).off + 3, none⟩ = some (.int .u8 (rs[(i + 1)]).p0) := (show w3.cell? (((⟨bo, fo, po⟩ : Addr).add ((i + 1) * 9)).add 3) = _ by rw [Addr.add_add]; exact hcq _ _ (flatR_at rs (i + 1) hl5 3 (by omega)))
                      have y4 : w3.cell? ⟨((⟨bo, fo, po⟩ : Addr).add ((i + 1) * 9)).block, ((⟨bo, fo, po⟩ : Addr).add ((i + 1) * 9)).off + 4, none⟩ = some (.int .u8 (rs[(i + 1)]).p1) := (show w3.cell? (((⟨bo, fo, po⟩ : Addr).add ((i + 1) * 9)).add 4) = _ by rw [Addr.add_add]; exact hcq _ _ (flatR_at rs (i + 1) hl5 4 (by omega)))
                      have y5 : w3.cell? ⟨((⟨bo, fo, po⟩ : Addr).add ((i + 1) * 9)).block, ((⟨bo, fo, po⟩ : Addr).add ((i + 1) * 9)).off + 5, none⟩ = some (.int .u64 (rs[(i + 1)]).seg) := (show w3.cell? (((⟨bo, fo, po⟩ : Addr).add ((i + 1) * 9)).add 5) = _ by rw [Addr.add_add]; exact hcq _ _ (flatR_at rs (i + 1) hl5 5 (by omega)))
                      have y6 : w3.cell? ⟨((⟨bo, fo, po⟩ : Addr).add ((i + 1) * 9)).block, ((⟨bo, fo, po⟩ : Addr).add ((i + 1) * 9)).off + 6, none⟩ = some (.int .u64 (rs[(i + 1)]).first) := (show w3.cell? (((⟨bo, fo, po⟩ : Addr).add ((i + 1) * 9)).add 6) = _ by rw [Addr.add_add]; exact hcq _ _ (flatR_at rs (i + 1) hl5 6 (by omega)))
                      have y7 : w3.cell? ⟨((⟨bo, fo, po⟩ : Addr).add ((i + 1) * 9)).block, ((⟨bo, fo, po⟩ : Addr).add ((i + 1) * 9)).off + 7, none⟩ = some (.int .u64 (rs[(i + 1)]).epoch) := (show w3.cell? (((⟨bo, fo, po⟩ : Addr).add ((i + 1) * 9)).add 7) = _ by rw [Addr.add_add]; exact hcq _ _ (flatR_at rs (i + 1) hl5 7 (by omega)))
                      have y8 : w3.cell? ⟨((⟨bo, fo, po⟩ : Addr).add ((i + 1) * 9)).block, ((⟨bo, fo, po⟩ : Addr).add ((i + 1) * 9)).off + 8, none⟩ = some (.int .u8 (rs[(i + 1)]).player) := (show w3.cell? (((⟨bo, fo, po⟩ : Addr).add ((i + 1) * 9)).add 8) = _ by rw [Addr.add_add]; exact hcq _ _ (flatR_at rs (i + 1) hl5 8 (by omega)))
                      rw [hge] at g0 g1 g2 g3 g4 g5 g6 g7 g8
                      clear hcg hcq hge hlg hln z0 z1 z2 z3 z4 z5 z6 z7 z8 s0 s1 s2 s3 s4 s5 s6 s7 s8 heq
                      generalize rs[i + 1] = r at *
                      have heq := eq_self51 r
                      have dwi := wrap_next i rs.length hl5 hl300
                      have hk1 : 0 ≤ (i : Int) + 1 := by omega
                      have hk2 : (i : Int) + 1 < (rs.length : Int) := Int.ofNat_lt.2 hl5
                      go_wp2_with fail
                      go_quiet (fail)
                      go_wp2_with fail
                      exact ⟨⟨i + 1, _, by omega, by go_num, rfl⟩, by simp [intOf]; omega⟩
                    · have hltb : decide ((i : Int) < (jj : Int)) = false := decide_eq_false (by omega)
                      have HB4 := Lib.hid (pw_below_drewN HB3.out n)
                      go_wp2_with fail
                      refine (works_calls _ (Crc.laid_below HLy.out HB4.out)).mono ?_
                      rintro e w5 ⟨rfl, hB5⟩
                      have HB5 := Lib.hid (HB4.out.trans (hB5.mono HB4.out.size))
                      go_wp2
                      go_ret
                      exact ⟨rfl, HB5.out⟩
                · rw [if_neg (fun h => hz h.1)] at HSc
                  have HSc := Lib.hid HSc
                  have dz := beq_ne N kk hz
                  clear hlx hbg
                  have djp := pos_succ jj
                  have dmx := run_same jj
                  have dmw := wrap_run jj rs.length hrl hl300
                  have h0r : 0 < rs.length := Nat.lt_of_le_of_lt (Nat.zero_le _) hrl
                  have h0i : (0 : Int) < (rs.length : Int) := Int.natCast_pos.2 h0r
                  have h1i : (1 : Int) ≤ (rs.length : Int) := h0i
                  have heq := eq_self51 r0
                  refine HSc.out.mono ?_
                  rintro e w2 ⟨v13, rfl, hq13, hB2⟩
                  have hln : (m.take jj).length = jj := by rw [List.length_take, Nat.min_eq_left hjm]
                  obtain ⟨A13, c13, rfl, _⟩ := q_slice hq13
                  rw [hln]
                  rw [hln] at hq13
                  have HQ13 := Lib.hid hq13
                  have HQ2 := Lib.hid (q_below HQr.out hB2)
                  have HB2 := Lib.hid (HBi.out.below.trans (hB2.mono HBi.out.below.size))
                  clear HSc hq13 hB2 hln
                  go_wp2_with (first | ((with_reducible refine gate_store (t := 51) (p := 12) rfl ?_); refine store_rec rfl 51 (.tmp 12) (.tmp 72) rfl info51 w2.heap.size 51 r0 Rec.zero rfl rfl (heap_alloc_new w2 (.cells Rec.zero.cells 51)) ?_; intro w3 hz3 hk3 hb3; have HZ3 := Lib.hid hz3; have HB3 := Lib.hid (hb3 w.heap.size w HB2.out.size (HB2.out.alloc HB2.out.size _)); have HK3 := Lib.hid hk3; have HR3 := Lib.hid (q_move (q_alloc HQ2.out (.cells Rec.zero.cells 51)) (fun k e => hk3.2 k (q_lt (q_alloc HQ2.out (.cells Rec.zero.cells 51)) k e) (fun e2 => Nat.lt_irrefl _ (Nat.lt_of_lt_of_eq (q_lt HQ2.out k e) e2.symm)))); have HG3 := Lib.hid (q_move (q_alloc HQ13.out (.cells Rec.zero.cells 51)) (fun k e => hk3.2 k (q_lt (q_alloc HQ13.out (.cells Rec.zero.cells 51)) k e) (fun e2 => Nat.lt_irrefl _ (Nat.lt_of_lt_of_eq (q_lt HQ13.out k e) e2.symm)))); obtain ⟨⟨bo, fo, po⟩, hA5, hco⟩ := q_cells HR3.out h0r; subst hA5; have z0 : w3.cell? ⟨bo, fo, po⟩ = some (.int .i64 r0.kind) := (hco 0 _ (by rw [show (0 : Nat) = 0 * 9 + 0 from rfl, flatR_at rs 0 h0r 0 (by decide), hr0]; rfl)); have z1 : w3.cell? ⟨bo, fo + 1, none⟩ = some (.int .u64 r0.frame) := (hco 1 _ (by rw [show (1 : Nat) = 0 * 9 + 1 from rfl, flatR_at rs 0 h0r 1 (by decide), hr0]; rfl)); have z2 : w3.cell? ⟨bo, fo + 2, none⟩ = some (.int .u8 r0.own) := (hco 2 _ (by rw [show (2 : Nat) = 0 * 9 + 2 from rfl, flatR_at rs 0 h0r 2 (by decide), hr0]; rfl)); have z3 : w3.cell? ⟨bo, fo + 3, none⟩ = some (.int .u8 r0.p0) := (hco 3 _ (by rw [show (3 : Nat) = 0 * 9 + 3 from rfl, flatR_at rs 0 h0r 3 (by decide), hr0]; rfl)); have z4 : w3.cell? ⟨bo, fo + 4, none⟩ = some (.int .u8 r0.p1) := (hco 4 _ (by rw [show (4 : Nat) = 0 * 9 + 4 from rfl, flatR_at rs 0 h0r 4 (by decide), hr0]; rfl)); have z5 : w3.cell? ⟨bo, fo + 5, none⟩ = some (.int .u64 r0.seg) := (hco 5 _ (by rw [show (5 : Nat) = 0 * 9 + 5 from rfl, flatR_at rs 0 h0r 5 (by decide), hr0]; rfl)); have z6 : w3.cell? ⟨bo, fo + 6, none⟩ = some (.int .u64 r0.first) := (hco 6 _ (by rw [show (6 : Nat) = 0 * 9 + 6 from rfl, flatR_at rs 0 h0r 6 (by decide), hr0]; rfl)); have z7 : w3.cell? ⟨bo, fo + 7, none⟩ = some (.int .u64 r0.epoch) := (hco 7 _ (by rw [show (7 : Nat) = 0 * 9 + 7 from rfl, flatR_at rs 0 h0r 7 (by decide), hr0]; rfl)); have z8 : w3.cell? ⟨bo, fo + 8, none⟩ = some (.int .u8 r0.player) := (hco 8 _ (by rw [show (8 : Nat) = 0 * 9 + 8 from rfl, flatR_at rs 0 h0r 8 (by decide), hr0]; rfl)); have s0 : w3.cell? ⟨w2.heap.size, 0, none⟩ = some (.int .i64 r0.kind) := blk_cell HZ3.out 0; have s1 : w3.cell? ⟨w2.heap.size, 1, none⟩ = some (.int .u64 r0.frame) := blk_cell HZ3.out 1; have s2 : w3.cell? ⟨w2.heap.size, 2, none⟩ = some (.int .u8 r0.own) := blk_cell HZ3.out 2; have s3 : w3.cell? ⟨w2.heap.size, 3, none⟩ = some (.int .u8 r0.p0) := blk_cell HZ3.out 3; have s4 : w3.cell? ⟨w2.heap.size, 4, none⟩ = some (.int .u8 r0.p1) := blk_cell HZ3.out 4; have s5 : w3.cell? ⟨w2.heap.size, 5, none⟩ = some (.int .u64 r0.seg) := blk_cell HZ3.out 5; have s6 : w3.cell? ⟨w2.heap.size, 6, none⟩ = some (.int .u64 r0.first) := blk_cell HZ3.out 6; have s7 : w3.cell? ⟨w2.heap.size, 7, none⟩ = some (.int .u64 r0.epoch) := blk_cell HZ3.out 7; have s8 : w3.cell? ⟨w2.heap.size, 8, none⟩ = some (.int .u8 r0.player) := blk_cell HZ3.out 8; clear hco; clear hz3 hk3 hb3))
                  go_quiet (fail)
                  go_wp2_with fail
                  go_loopw [16] (fun t16 wz => ∃ i n : Nat, i ≤ jj ∧ t16 = .int .i64 i ∧ wz = w3.drewN n) (fun t16 _ => jj - (intOf t16).toNat)
                  case atStart => exact ⟨0, nq, Nat.zero_le _, rfl, rfl⟩
                  case round =>
                    obtain ⟨i, n, hi, rfl, rfl⟩ := hrel
                    by_cases hlt : i < jj
                    · have hltb : decide ((i : Int) < (jj : Int)) = true := decide_eq_true (by omega)
                      have hk0 : 0 ≤ (i : Int) := by omega
                      have hln : (m.take jj).length = jj := by rw [List.length_take, Nat.min_eq_left hjm]
                      have hlg : i < (m.take jj).length := by rw [hln]; exact hlt
                      have hl5 : i + 1 < rs.length := Nat.lt_of_le_of_lt hlt hrl
                      have hge : (m.take jj)[i] = rs[i + 1] := by rw [HNx.out i hlt hl5, List.getElem_take]
                      obtain ⟨⟨bg, fg, pg⟩, hA13, hcg⟩ := q_cells HG3.out (Nat.lt_of_le_of_lt (Nat.zero_le _) hlt)
                      subst hA13
                      obtain ⟨⟨bq, fq, pq⟩, hA5, hcq⟩ := q_cells HR3.out h0r
                      cases hA5
                      have g0 : w3.cell? ((⟨bg, fg, pg⟩ : Addr).add (i * 9)) = some (.int .i64 ((m.take jj)[i]).kind) := hcg _ _ (flatR_at (m.take jj) i hlg 0 (by omega))
                      have g1 : w3.cell? ⟨((⟨bg, fg, pg⟩ : Addr).add (i * 9)).block, ((⟨bg, fg, pg⟩ : Addr).add (i * 9)).off + 1, none⟩ = some (.int .u64 ((m.take jj)[i]).frame) := (show w3.cell? (((⟨bg, fg, pg⟩ : Addr).add (i * 9)).add 1) = _ by rw [Addr.add_add]; exact hcg _ _ (flatR_at (m.take jj) i hlg 1 (by omega)))
                      have g2 : w3.cell? ⟨((⟨bg, fg, pg⟩ : Addr).add (i * 9)).block, ((⟨bg, fg, pg⟩ : Addr).add (i * 9)).off + 2, none⟩ = some (.int .u8 ((m.take jj)[i]).own) := (show w3.cell? (((⟨bg, fg, pg⟩ : Addr).add (i * 9)).add 2) = _ by rw [Addr.add_add]; exact hcg _ _ (flatR_at (m.take jj) i hlg 2 (by omega)))
                      have g3 : w3.cell? ⟨((⟨bg, fg, pg⟩ : Addr).add (i * 9)).block, ((⟨bg, fg, pg⟩ : Addr).add (i * 9)).off + 3, none⟩ = some (.int .u8 ((m.take jj)[i]).p0) := (show w3.cell? (((⟨bg, fg, pg⟩ : Addr).add (i * 9)).add 3) = _ by rw [Addr.add_add]; exact hcg _ _ (flatR_at (m.take jj) i hlg 3 (by omega)))
                      have g4 : w3.cell? ⟨((⟨bg, fg, pg⟩ : Addr).add (i * 9)).block, ((⟨bg, fg, pg⟩ : Addr).add (i * 9)).off + 4, none⟩ = some (.int .u8 ((m.take jj)[i]).p1) := (show w3.cell? (((⟨bg, fg, pg⟩ : Addr).add (i * 9)).add 4) = _ by rw [Addr.add_add]; exact hcg _ _ (flatR_at (m.take jj) i hlg 4 (by omega)))
                      have g5 : w3.cell? ⟨((⟨bg, fg, pg⟩ : Addr).add (i * 9)).block, ((⟨bg, fg, pg⟩ : Addr).add (i * 9)).off + 5, none⟩ = some (.int .u64 ((m.take jj)[i]).seg) := (show w3.cell? (((⟨bg, fg, pg⟩ : Addr).add (i * 9)).add 5) = _ by rw [Addr.add_add]; exact hcg _ _ (flatR_at (m.take jj) i hlg 5 (by omega)))
                      have g6 : w3.cell? ⟨((⟨bg, fg, pg⟩ : Addr).add (i * 9)).block, ((⟨bg, fg, pg⟩ : Addr).add (i * 9)).off + 6, none⟩ = some (.int .u64 ((m.take jj)[i]).first) := (show w3.cell? (((⟨bg, fg, pg⟩ : Addr).add (i * 9)).add 6) = _ by rw [Addr.add_add]; exact hcg _ _ (flatR_at (m.take jj) i hlg 6 (by omega)))
                      have g7 : w3.cell? ⟨((⟨bg, fg, pg⟩ : Addr).add (i * 9)).block, ((⟨bg, fg, pg⟩ : Addr).add (i * 9)).off + 7, none⟩ = some (.int .u64 ((m.take jj)[i]).epoch) := (show w3.cell? (((⟨bg, fg, pg⟩ : Addr).add (i * 9)).add 7) = _ by rw [Addr.add_add]; exact hcg _ _ (flatR_at (m.take jj) i hlg 7 (by omega)))
                      have g8 : w3.cell? ⟨((⟨bg, fg, pg⟩ : Addr).add (i * 9)).block, ((⟨bg, fg, pg⟩ : Addr).add (i * 9)).off + 8, none⟩ = some (.int .u8 ((m.take jj)[i]).player) := (show w3.cell? (((⟨bg, fg, pg⟩ : Addr).add (i * 9)).add 8) = _ by rw [Addr.add_add]; exact hcg _ _ (flatR_at (m.take jj) i hlg 8 (by omega)))
                      have y0 : w3.cell? ((⟨bo, fo, po⟩ : Addr).add ((i + 1) * 9)) = some (.int .i64 (rs[(i + 1)]).kind) := hcq _ _ (flatR_at rs (i + 1) hl5 0 (by omega))
                      have y1 : w3.cell? ⟨((⟨bo, fo, po⟩ : Addr).add ((i + 1) * 9)).block, ((⟨bo, fo, po⟩ : Addr).add ((i + 1) * 9)).off + 1, none⟩ = some (.int .u64 (rs[(i + 1)]).frame) := (show w3.cell? (((⟨bo, fo, po⟩ : Addr).add ((i + 1) * 9)).add 1) = _ by rw [Addr.add_add]; exact hcq _ _ (flatR_at rs (i + 1) hl5 1 (by omega)))
                      have y2 : w3.cell? ⟨((⟨bo, fo, po⟩ : Addr).add ((i + 1) * 9)).block, ((⟨bo, fo, po⟩ : Addr).add ((i + 1) * 9)).off + 2, none⟩ = some (.int .u8 (rs[(i + 1)]).own) := (show w3.cell? (((⟨bo, fo, po⟩ : Addr).add ((i + 1) * 9)).add 2) = _ by rw [Addr.add_add]; exact hcq _ _ (flatR_at rs (i + 1) hl5 2 (by omega)))
                      have y3 : w3.cell? ⟨((⟨bo, fo, po⟩ : Addr).add ((i + 1) * 9)).block, ((⟨bo, fo, po⟩ : Addr).add ((i + 1) * 9)).off + 3, none⟩ = some (.int .u8 (rs[(i + 1)]).p0) := (show w3.cell? (((⟨bo, fo, po⟩ : Addr).add ((i + 1) * 9)).add 3) = _ by rw [Addr.add_add]; exact hcq _ _ (flatR_at rs (i + 1) hl5 3 (by omega)))
                      have y4 : w3.cell? ⟨((⟨bo, fo, po⟩ : Addr).add ((i + 1) * 9)).block, ((⟨bo, fo, po⟩ : Addr).add ((i + 1) * 9)).off + 4, none⟩ = some (.int .u8 (rs[(i + 1)]).p1) := (show w3.cell? (((⟨bo, fo, po⟩ : Addr).add ((i + 1) * 9)).add 4) = _ by rw [Addr.add_add]; exact hcq _ _ (flatR_at rs (i + 1) hl5 4 (by omega)))
                      have y5 : w3.cell? ⟨((⟨bo, fo, po⟩ : Addr).add ((i + 1) * 9)).block, ((⟨bo, fo, po⟩ : Addr).add ((i + 1) * 9)).off + 5, none⟩ = some (.int .u64 (rs[(i + 1)]).seg) := (show w3.cell? (((⟨bo, fo, po⟩ : Addr).add ((i + 1) * 9)).add 5) = _ by rw [Addr.add_add]; exact hcq _ _ (flatR_at rs (i + 1) hl5 5 (by omega)))
                      have y6 : w3.cell? ⟨((⟨bo, fo, po⟩ : Addr).add ((i + 1) * 9)).block, ((⟨bo, fo, po⟩ : Addr).add ((i + 1) * 9)).off + 6, none⟩ = some (.int .u64 (rs[(i + 1)]).first) := (show w3.cell? (((⟨bo, fo, po⟩ : Addr).add ((i + 1) * 9)).add 6) = _ by rw [Addr.add_add]; exact hcq _ _ (flatR_at rs (i + 1) hl5 6 (by omega)))
                      have y7 : w3.cell? ⟨((⟨bo, fo, po⟩ : Addr).add ((i + 1) * 9)).block, ((⟨bo, fo, po⟩ : Addr).add ((i + 1) * 9)).off + 7, none⟩ = some (.int .u64 (rs[(i + 1)]).epoch) := (show w3.cell? (((⟨bo, fo, po⟩ : Addr).add ((i + 1) * 9)).add 7) = _ by rw [Addr.add_add]; exact hcq _ _ (flatR_at rs (i + 1) hl5 7 (by omega)))
                      have y8 : w3.cell? ⟨((⟨bo, fo, po⟩ : Addr).add ((i + 1) * 9)).block, ((⟨bo, fo, po⟩ : Addr).add ((i + 1) * 9)).off + 8, none⟩ = some (.int .u8 (rs[(i + 1)]).player) := (show w3.cell? (((⟨bo, fo, po⟩ : Addr).add ((i + 1) * 9)).add 8) = _ by rw [Addr.add_add]; exact hcq _ _ (flatR_at rs (i + 1) hl5 8 (by omega)))
                      rw [hge] at g0 g1 g2 g3 g4 g5 g6 g7 g8
                      clear hcg hcq hge hlg hln z0 z1 z2 z3 z4 z5 z6 z7 z8 s0 s1 s2 s3 s4 s5 s6 s7 s8 heq
                      generalize rs[i + 1] = r at *
                      have heq := eq_self51 r
                      have dwi := wrap_next i rs.length hl5 hl300
                      have hk1 : 0 ≤ (i : Int) + 1 := by omega
                      have hk2 : (i : Int) + 1 < (rs.length : Int) := Int.ofNat_lt.2 hl5
                      go_wp2_with fail
                      go_quiet (fail)
                      go_wp2_with fail
                      exact ⟨⟨i + 1, _, by omega, by go_num, rfl⟩, by simp [intOf]; omega⟩
                    · have hltb : decide ((i : Int) < (jj : Int)) = false := decide_eq_false (by omega)
                      have HB4 := Lib.hid (pw_below_drewN HB3.out n)
                      go_wp2_with fail
                      refine (works_calls _ (Crc.laid_below HLy.out HB4.out)).mono ?_
                      rintro e w5 ⟨rfl, hB5⟩
                      have HB5 := Lib.hid (HB4.out.trans (hB5.mono HB4.out.size))
                      go_wp2
                      go_ret
                      exact ⟨rfl, HB5.out⟩
          · have hltb : decide ((j : Int) < (rs.length : Int)) = false := decide_eq_false (by omega)
            have hex : j < rs.length → kk < (putsL (rs.take (j + 1))).length := fun h => absurd h hlt
            go_wp2_with fail
            obtain ⟨j2, xj, g1, g2, g3, g4, g5⟩ := scan_puts 1 HF.out kk hkk
            have hjj : j = j2 := whole_one rs kk j j2 hj g1 hjk hex g3 g4
            subst hjj
            have HSc := scan_calls wr 1 ((putsL rs).take kk) (by rw [List.length_take]; have := HLe.out; omega) (Crc.laid_below HLy.out HBi.out.below)
            rw [g5] at HSc
            have hgx : (bs (putsL rs)).extract 0 kk = bs ((putsL rs).take kk) := by rw [bs_extract]; rfl
            rw [hgx]
            have hfew : xj.l.length ≤ 100000 := by have := scan_few 1 ((putsL rs).take kk) (by rw [List.length_take]; have := HLe.out; omega); rw [g5] at this; exact this
            clear g3 g4 g5 hex hjk hgx HE 
            generalize hN : (putsL (rs.take j)).length = N at *
            have dgood : ((N : Int) != (N : Int)) = false := by simp
            by_cases hj0 : j = 0
            · subst hj0
              cases g2
              have hN0 : N = 0 := by rw [← hN]; rfl
              subst hN0
              have HSc := Lib.hid (show Calls Tryd.prog 20 #[.string (bs ((putsL rs).take kk)), .int .u64 1] wr (fun e w' => ∃ vl, e = .returned (.tuple #[Rec.zero.val, vl, .int .i64 0, .int .i64 10]) ∧ QRow w' wr.heap.size 51 9 vl 0 [] ∧ Below wr.heap.size wr w') by simpa [Sc.start, flatR] using HSc)
              by_cases hz : kk = 0
              · have dz : ((0 : Int) == (kk : Int)) = true := by simp [hz]
                refine HSc.out.mono ?_
                rintro e w2 ⟨v13, rfl, hq13, hB2⟩
                obtain ⟨A13, c13, rfl, _⟩ := q_slice hq13
                have HB2 := Lib.hid (HBi.out.below.trans (hB2.mono HBi.out.below.size))
                clear HSc hq13 hB2
                go_wp2_with (first | ((with_reducible refine gate_store (t := 51) (p := 12) rfl ?_); refine store_rec rfl 51 (.tmp 12) (.tmp 72) rfl info51 w2.heap.size 51 Rec.zero Rec.zero rfl rfl (heap_alloc_new w2 (.cells Rec.zero.cells 51)) ?_; intro w3 hz3 hk3 hb3; have HZ3 := Lib.hid hz3; have HB3 := Lib.hid (hb3 w.heap.size w HB2.out.size (HB2.out.alloc HB2.out.size _)); clear hz3 hk3 hb3))
                go_quiet (fail)
                go_wp2_with fail
                go_loopw [16] (fun t16 wz => t16 = .int .i64 0 ∧ wz = w3.drewN nq) (fun _ _ => 0)
                case atStart => exact ⟨rfl, rfl⟩
                case round =>
                  obtain ⟨rfl, rfl⟩ := hrel
                  have HB4 := Lib.hid (pw_below_drewN HB3.out nq)
                  go_wp2_with fail
                  refine (works_calls _ (Crc.laid_below HLy.out HB4.out)).mono ?_
                  rintro e w5 ⟨rfl, hB5⟩
                  have HB5 := Lib.hid (HB4.out.trans (hB5.mono HB4.out.size))
                  go_wp2
                  go_ret
                  exact ⟨rfl, HB5.out⟩
              · have dz : ((0 : Int) == (kk : Int)) = false := by simp; omega
                refine HSc.out.mono ?_
                rintro e w2 ⟨v13, rfl, hq13, hB2⟩
                obtain ⟨A13, c13, rfl, _⟩ := q_slice hq13
                have HB2 := Lib.hid (HBi.out.below.trans (hB2.mono HBi.out.below.size))
                clear HSc hq13 hB2
                go_wp2_with (first | ((with_reducible refine gate_store (t := 51) (p := 12) rfl ?_); refine store_rec rfl 51 (.tmp 12) (.tmp 72) rfl info51 w2.heap.size 51 Rec.zero Rec.zero rfl rfl (heap_alloc_new w2 (.cells Rec.zero.cells 51)) ?_; intro w3 hz3 hk3 hb3; have HZ3 := Lib.hid hz3; have HB3 := Lib.hid (hb3 w.heap.size w HB2.out.size (HB2.out.alloc HB2.out.size _)); clear hz3 hk3 hb3))
                go_quiet (fail)
                go_wp2_with fail
                go_loopw [16] (fun t16 wz => t16 = .int .i64 0 ∧ wz = w3.drewN nq) (fun _ _ => 0)
                case atStart => exact ⟨rfl, rfl⟩
                case round =>
                  obtain ⟨rfl, rfl⟩ := hrel
                  have HB4 := Lib.hid (pw_below_drewN HB3.out nq)
                  go_wp2_with fail
                  refine (works_calls _ (Crc.laid_below HLy.out HB4.out)).mono ?_
                  rintro e w5 ⟨rfl, hB5⟩
                  have HB5 := Lib.hid (HB4.out.trans (hB5.mono HB4.out.size))
                  go_wp2
                  go_ret
                  exact ⟨rfl, HB5.out⟩
            · obtain ⟨r0, m, hrs⟩ := List.exists_cons_of_ne_nil hne
              obtain ⟨jj, rfl⟩ : ∃ jj, j = jj + 1 := ⟨j - 1, by omega⟩
              have hjm : jj ≤ m.length := by rw [hrs] at hj; simpa using hj
              rw [hrs, List.take_succ_cons] at g2
              obtain ⟨hy1, hy2, hy3, hy4, hhd, hlx, hbg⟩ := feed_start g2
              clear hy1 hy2 hy3
              have hlen : xj.l.length = jj := by rw [hlx, List.length_take]; omega
              clear hy4
              have HQr := Lib.hid (show QRow wr w.heap.size 51 9 (.slice A5 rs.length c5) rs.length (flatR rs) from HBi.out.q5)
              have hr0 : ∀ (h : 0 < rs.length), rs[0] = r0 := fun h => by simp [hrs]
              have HNx := Lib.hid (show ∀ (i : Nat) (h1 : i < jj) (h2 : i + 1 < rs.length), (rs[i + 1] : Rec) = (m[i]'(by omega)) from fun i h1 h2 => by simp [hrs])
              have hrl : jj < rs.length := by rw [hrs]; simp; omega
              rw [hhd] at HSc
              rw [hlx] at HSc
              clear g1 g2 hhd hfew hj0 hrs hne
              by_cases hz : N = kk
              · rw [if_pos ⟨hz, hbg⟩] at HSc
                have HSc := Lib.hid HSc
                have dz := beq_eq N kk hz
                clear hlx hbg
                have djp := pos_succ jj
                have dmx := run_same jj
                have dmw := wrap_run jj rs.length hrl hl300
                have h0r : 0 < rs.length := Nat.lt_of_le_of_lt (Nat.zero_le _) hrl
                have h0i : (0 : Int) < (rs.length : Int) := Int.natCast_pos.2 h0r
                have h1i : (1 : Int) ≤ (rs.length : Int) := h0i
                have heq := eq_self51 r0
                refine HSc.out.mono ?_
                rintro e w2 ⟨v13, rfl, hq13, hB2⟩
                have hln : (m.take jj).length = jj := by rw [List.length_take, Nat.min_eq_left hjm]
                obtain ⟨A13, c13, rfl, _⟩ := q_slice hq13
                rw [hln]
                rw [hln] at hq13
                have HQ13 := Lib.hid hq13
                have HQ2 := Lib.hid (q_below HQr.out hB2)
                have HB2 := Lib.hid (HBi.out.below.trans (hB2.mono HBi.out.below.size))
                clear HSc hq13 hB2 hln
                go_wp2_with (first | ((with_reducible refine gate_store (t := 51) (p := 12) rfl ?_); refine store_rec rfl 51 (.tmp 12) (.tmp 72) rfl info51 w2.heap.size 51 r0 Rec.zero rfl rfl (heap_alloc_new w2 (.cells Rec.zero.cells 51)) ?_; intro w3 hz3 hk3 hb3; have HZ3 := Lib.hid hz3; have HB3 := Lib.hid (hb3 w.heap.size w HB2.out.size (HB2.out.alloc HB2.out.size _)); have HK3 := Lib.hid hk3; have HR3 := Lib.hid (q_move (q_alloc HQ2.out (.cells Rec.zero.cells 51)) (fun k e => hk3.2 k (q_lt (q_alloc HQ2.out (.cells Rec.zero.cells 51)) k e) (fun e2 => Nat.lt_irrefl _ (Nat.lt_of_lt_of_eq (q_lt HQ2.out k e) e2.symm)))); have HG3 := Lib.hid (q_move (q_alloc HQ13.out (.cells Rec.zero.cells 51)) (fun k e => hk3.2 k (q_lt (q_alloc HQ13.out (.cells Rec.zero.cells 51)) k e) (fun e2 => Nat.lt_irrefl _ (Nat.lt_of_lt_of_eq (q_lt HQ13.out k e) e2.symm)))); obtain ⟨⟨bo, fo, po⟩, hA5, hco⟩ := q_cells HR3.out h0r; subst hA5; have z0 : w3.cell? ⟨bo, fo, po⟩ = some (.int .i64 r0.kind) := (hco 0 _ (by rw [show (0 : Nat) = 0 * 9 + 0 from rfl, flatR_at rs 0 h0r 0 (by decide), hr0]; rfl)); have z1 : w3.cell? ⟨bo, fo + 1, none⟩ = some (.int .u64 r0.frame) := (hco 1 _ (by rw [show (1 : Nat) = 0 * 9 + 1 from rfl, flatR_at rs 0 h0r 1 (by decide), hr0]; rfl)); have z2 : w3.cell? ⟨bo, fo + 2, none⟩ = some (.int .u8 r0.own) := (hco 2 _ (by rw [show (2 : Nat) = 0 * 9 + 2 from rfl, flatR_at rs 0 h0r 2 (by decide), hr0]; rfl)); have z3 : w3.cell? ⟨bo, fo + 3, none⟩ = some (.int .u8 r0.p0) := (hco 3 _ (by rw [show (3 : Nat) = 0 * 9 + 3 from rfl, flatR_at rs 0 h0r 3 (by decide), hr0]; rfl)); have z4 : w3.cell? ⟨bo, fo + 4, none⟩ = some (.int .u8 r0.p1) := (hco 4 _ (by rw [show (4 : Nat) = 0 * 9 + 4 from rfl, flatR_at rs 0 h0r 4 (by decide), hr0]; rfl)); have z5 : w3.cell? ⟨bo, fo + 5, none⟩ = some (.int .u64 r0.seg) := (hco 5 _ (by rw [show (5 : Nat) = 0 * 9 + 5 from rfl, flatR_at rs 0 h0r 5 (by decide), hr0]; rfl)); have z6 : w3.cell? ⟨bo, fo + 6, none⟩ = some (.int .u64 r0.first) := (hco 6 _ (by rw [show (6 : Nat) = 0 * 9 + 6 from rfl, flatR_at rs 0 h0r 6 (by decide), hr0]; rfl)); have z7 : w3.cell? ⟨bo, fo + 7, none⟩ = some (.int .u64 r0.epoch) := (hco 7 _ (by rw [show (7 : Nat) = 0 * 9 + 7 from rfl, flatR_at rs 0 h0r 7 (by decide), hr0]; rfl)); have z8 : w3.cell? ⟨bo, fo + 8, none⟩ = some (.int .u8 r0.player) := (hco 8 _ (by rw [show (8 : Nat) = 0 * 9 + 8 from rfl, flatR_at rs 0 h0r 8 (by decide), hr0]; rfl)); have s0 : w3.cell? ⟨w2.heap.size, 0, none⟩ = some (.int .i64 r0.kind) := blk_cell HZ3.out 0; have s1 : w3.cell? ⟨w2.heap.size, 1, none⟩ = some (.int .u64 r0.frame) := blk_cell HZ3.out 1; have s2 : w3.cell? ⟨w2.heap.size, 2, none⟩ = some (.int .u8 r0.own) := blk_cell HZ3.out 2; have s3 : w3.cell? ⟨w2.heap.size, 3, none⟩ = some (.int .u8 r0.p0) := blk_cell HZ3.out 3; have s4 : w3.cell? ⟨w2.heap.size, 4, none⟩ = some (.int .u8 r0.p1) := blk_cell HZ3.out 4; have s5 : w3.cell? ⟨w2.heap.size, 5, none⟩ = some (.int .u64 r0.seg) := blk_cell HZ3.out 5; have s6 : w3.cell? ⟨w2.heap.size, 6, none⟩ = some (.int .u64 r0.first) := blk_cell HZ3.out 6; have s7 : w3.cell? ⟨w2.heap.size, 7, none⟩ = some (.int .u64 r0.epoch) := blk_cell HZ3.out 7; have s8 : w3.cell? ⟨w2.heap.size, 8, none⟩ = some (.int .u8 r0.player) := blk_cell HZ3.out 8; clear hco; clear hz3 hk3 hb3))
                go_quiet (fail)
                go_wp2_with fail
                go_loopw [16] (fun t16 wz => ∃ i n : Nat, i ≤ jj ∧ t16 = .int .i64 i ∧ wz = w3.drewN n) (fun t16 _ => jj - (intOf t16).toNat)
                case atStart => exact ⟨0, nq, Nat.zero_le _, rfl, rfl⟩
                case round =>
                  obtain ⟨i, n, hi, rfl, rfl⟩ := hrel
                  by_cases hlt : i < jj
                  · have hltb : decide ((i : Int) < (jj : Int)) = true := decide_eq_true (by omega)
                    have hk0 : 0 ≤ (i : Int) := by omega
                    have hln : (m.take jj).length = jj := by rw [List.length_take, Nat.min_eq_left hjm]
                    have hlg : i < (m.take jj).length := by rw [hln]; exact hlt
                    have hl5 : i + 1 < rs.length := Nat.lt_of_le_of_lt hlt hrl
                    have hge : (m.take jj)[i] = rs[i + 1] := by rw [HNx.out i hlt hl5, List.getElem_take]
                    obtain ⟨⟨bg, fg, pg⟩, hA13, hcg⟩ := q_cells HG3.out (Nat.lt_of_le_of_lt (Nat.zero_le _) hlt)
                    subst hA13
                    obtain ⟨⟨bq, fq, pq⟩, hA5, hcq⟩ := q_cells HR3.out h0r
                    cases hA5
                    have g0 : w3.cell? ((⟨bg, fg, pg⟩ : Addr).add (i * 9)) = some (.int .i64 ((m.take jj)[i]).kind) := hcg _ _ (flatR_at (m.take jj) i hlg 0 (by omega))
                    have g1 : w3.cell? ⟨((⟨bg, fg, pg⟩ : Addr).add (i * 9)).block, ((⟨bg, fg, pg⟩ : Addr).add (i * 9)).off + 1, none⟩ = some (.int .u64 ((m.take jj)[i]).frame) := (show w3.cell? (((⟨bg, fg, pg⟩ : Addr).add (i * 9)).add 1) = _ by rw [Addr.add_add]; exact hcg _ _ (flatR_at (m.take jj) i hlg 1 (by omega)))
                    have g2 : w3.cell? ⟨((⟨bg, fg, pg⟩ : Addr).add (i * 9)).block, ((⟨bg, fg, pg⟩ : Addr).add (i * 9)).off + 2, none⟩ = some (.int .u8 ((m.take jj)[i]).own) := (show w3.cell? (((⟨bg, fg, pg⟩ : Addr).add (i * 9)).add 2) = _ by rw [Addr.add_add]; exact hcg _ _ (flatR_at (m.take jj) i hlg 2 (by omega)))
                    have g3 : w3.cell? ⟨((⟨bg, fg, pg⟩ : Addr).add (i * 9)).block, ((⟨bg, fg, pg⟩ : Addr).add (i * 9)).off + 3, none⟩ = some (.int .u8 ((m.take jj)[i]).p0) := (show w3.cell? (((⟨bg, fg, pg⟩ : Addr).add (i * 9)).add 3) = _ by rw [Addr.add_add]; exact hcg _ _ (flatR_at (m.take jj) i hlg 3 (by omega)))
                    have g4 : w3.cell? ⟨((⟨bg, fg, pg⟩ : Addr).add (i * 9)).block, ((⟨bg, fg, pg⟩ : Addr).add (i * 9)).off + 4, none⟩ = some (.int .u8 ((m.take jj)[i]).p1) := (show w3.cell? (((⟨bg, fg, pg⟩ : Addr).add (i * 9)).add 4) = _ by rw [Addr.add_add]; exact hcg _ _ (flatR_at (m.take jj) i hlg 4 (by omega)))
                    have g5 : w3.cell? ⟨((⟨bg, fg, pg⟩ : Addr).add (i * 9)).block, ((⟨bg, fg, pg⟩ : Addr).add (i * 9)).off + 5, none⟩ = some (.int .u64 ((m.take jj)[i]).seg) := (show w3.cell? (((⟨bg, fg, pg⟩ : Addr).add (i * 9)).add 5) = _ by rw [Addr.add_add]; exact hcg _ _ (flatR_at (m.take jj) i hlg 5 (by omega)))
                    have g6 : w3.cell? ⟨((⟨bg, fg, pg⟩ : Addr).add (i * 9)).block, ((⟨bg, fg, pg⟩ : Addr).add (i * 9)).off + 6, none⟩ = some (.int .u64 ((m.take jj)[i]).first) := (show w3.cell? (((⟨bg, fg, pg⟩ : Addr).add (i * 9)).add 6) = _ by rw [Addr.add_add]; exact hcg _ _ (flatR_at (m.take jj) i hlg 6 (by omega)))
                    have g7 : w3.cell? ⟨((⟨bg, fg, pg⟩ : Addr).add (i * 9)).block, ((⟨bg, fg, pg⟩ : Addr).add (i * 9)).off + 7, none⟩ = some (.int .u64 ((m.take jj)[i]).epoch) := (show w3.cell? (((⟨bg, fg, pg⟩ : Addr).add (i * 9)).add 7) = _ by rw [Addr.add_add]; exact hcg _ _ (flatR_at (m.take jj) i hlg 7 (by omega)))
                    have g8 : w3.cell? ⟨((⟨bg, fg, pg⟩ : Addr).add (i * 9)).block, ((⟨bg, fg, pg⟩ : Addr).add (i * 9)).off + 8, none⟩ = some (.int .u8 ((m.take jj)[i]).player) := (show w3.cell? (((⟨bg, fg, pg⟩ : Addr).add (i * 9)).add 8) = _ by rw [Addr.add_add]; exact hcg _ _ (flatR_at (m.take jj) i hlg 8 (by omega)))
                    have y0 : w3.cell? ((⟨bo, fo, po⟩ : Addr).add ((i + 1) * 9)) = some (.int .i64 (rs[(i + 1)]).kind) := hcq _ _ (flatR_at rs (i + 1) hl5 0 (by omega))
                    have y1 : w3.cell? ⟨((⟨bo, fo, po⟩ : Addr).add ((i + 1) * 9)).block, ((⟨bo, fo, po⟩ : Addr).add ((i + 1) * 9)).off + 1, none⟩ = some (.int .u64 (rs[(i + 1)]).frame) := (show w3.cell? (((⟨bo, fo, po⟩ : Addr).add ((i + 1) * 9)).add 1) = _ by rw [Addr.add_add]; exact hcq _ _ (flatR_at rs (i + 1) hl5 1 (by omega)))
                    have y2 : w3.cell? ⟨((⟨bo, fo, po⟩ : Addr).add ((i + 1) * 9)).block, ((⟨bo, fo, po⟩ : Addr).add ((i + 1) * 9)).off + 2, none⟩ = some (.int .u8 (rs[(i + 1)]).own) := (show w3.cell? (((⟨bo, fo, po⟩ : Addr).add ((i + 1) * 9)).add 2) = _ by rw [Addr.add_add]; exact hcq _ _ (flatR_at rs (i + 1) hl5 2 (by omega)))
                    have y3 : w3.cell? ⟨((⟨bo, fo, po⟩ : Addr).add ((i + 1) * 9)).block, ((⟨bo, fo, po⟩ : Addr).add ((i + 1) * 9)).off + 3, none⟩ = some (.int .u8 (rs[(i + 1)]).p0) := (show w3.cell? (((⟨bo, fo, po⟩ : Addr).add ((i + 1) * 9)).add 3) = _ by rw [Addr.add_add]; exact hcq _ _ (flatR_at rs (i + 1) hl5 3 (by omega)))
                    have y4 : w3.cell? ⟨((⟨bo, fo, po⟩ : Addr).add ((i + 1) * 9)).block, ((⟨bo, fo, po⟩ : Addr).add ((i + 1) * 9)).off + 4, none⟩ = some (.int .u8 (rs[(i + 1)]).p1) := (show w3.cell? (((⟨bo, fo, po⟩ : Addr).add ((i + 1) * 9)).add 4) = _ by rw [Addr.add_add]; exact hcq _ _ (flatR_at rs (i + 1) hl5 4 (by omega)))
                    have y5 : w3.cell? ⟨((⟨bo, fo, po⟩ : Addr).add ((i + 1) * 9)).block, ((⟨bo, fo, po⟩ : Addr).add ((i + 1) * 9)).off + 5, none⟩ = some (.int .u64 (rs[(i + 1)]).seg) := (show w3.cell? (((⟨bo, fo, po⟩ : Addr).add ((i + 1) * 9)).add 5) = _ by rw [Addr.add_add]; exact hcq _ _ (flatR_at rs (i + 1) hl5 5 (by omega)))
                    have y6 : w3.cell? ⟨((⟨bo, fo, po⟩ : Addr).add ((i + 1) * 9)).block, ((⟨bo, fo, po⟩ : Addr).add ((i + 1) * 9)).off + 6, none⟩ = some (.int .u64 (rs[(i + 1)]).first) := (show w3.cell? (((⟨bo, fo, po⟩ : Addr).add ((i + 1) * 9)).add 6) = _ by rw [Addr.add_add]; exact hcq _ _ (flatR_at rs (i + 1) hl5 6 (by omega)))
                    have y7 : w3.cell? ⟨((⟨bo, fo, po⟩ : Addr).add ((i + 1) * 9)).block, ((⟨bo, fo, po⟩ : Addr).add ((i + 1) * 9)).off + 7, none⟩ = some (.int .u64 (rs[(i + 1)]).epoch) := (show w3.cell? (((⟨bo, fo, po⟩ : Addr).add ((i + 1) * 9)).add 7) = _ by rw [Addr.add_add]; exact hcq _ _ (flatR_at rs (i + 1) hl5 7 (by omega)))
                    have y8 : w3.cell? ⟨((⟨bo, fo, po⟩ : Addr).add ((i + 1) * 9)).block, ((⟨bo, fo, po⟩ : Addr).add ((i + 1) * 9)).off + 8, none⟩ = some (.int .u8 (rs[(i + 1)]).player) := (show w3.cell? (((⟨bo, fo, po⟩ : Addr).add ((i + 1) * 9)).add 8) = _ by rw [Addr.add_add]; exact hcq _ _ (flatR_at rs (i + 1) hl5 8 (by omega)))
                    rw [hge] at g0 g1 g2 g3 g4 g5 g6 g7 g8
                    clear hcg hcq hge hlg hln z0 z1 z2 z3 z4 z5 z6 z7 z8 s0 s1 s2 s3 s4 s5 s6 s7 s8 heq
                    generalize rs[i + 1] = r at *
                    have heq := eq_self51 r
                    have dwi := wrap_next i rs.length hl5 hl300
                    have hk1 : 0 ≤ (i : Int) + 1 := by omega
                    have hk2 : (i : Int) + 1 < (rs.length : Int) := Int.ofNat_lt.2 hl5
                    go_wp2_with fail
                    go_quiet (fail)
                    go_wp2_with fail
                    exact ⟨⟨i + 1, _, by omega, by go_num, rfl⟩, by simp [intOf]; omega⟩
                  · have hltb : decide ((i : Int) < (jj : Int)) = false := decide_eq_false (by omega)
                    have HB4 := Lib.hid (pw_below_drewN HB3.out n)
                    go_wp2_with fail
                    refine (works_calls _ (Crc.laid_below HLy.out HB4.out)).mono ?_
                    rintro e w5 ⟨rfl, hB5⟩
                    have HB5 := Lib.hid (HB4.out.trans (hB5.mono HB4.out.size))
                    go_wp2
                    go_ret
                    exact ⟨rfl, HB5.out⟩
              · rw [if_neg (fun h => hz h.1)] at HSc
                have HSc := Lib.hid HSc
                have dz := beq_ne N kk hz
                clear hlx hbg
                have djp := pos_succ jj
                have dmx := run_same jj
                have dmw := wrap_run jj rs.length hrl hl300
                have h0r : 0 < rs.length := Nat.lt_of_le_of_lt (Nat.zero_le _) hrl
                have h0i : (0 : Int) < (rs.length : Int) := Int.natCast_pos.2 h0r
                have h1i : (1 : Int) ≤ (rs.length : Int) := h0i
                have heq := eq_self51 r0
                refine HSc.out.mono ?_
                rintro e w2 ⟨v13, rfl, hq13, hB2⟩
                have hln : (m.take jj).length = jj := by rw [List.length_take, Nat.min_eq_left hjm]
                obtain ⟨A13, c13, rfl, _⟩ := q_slice hq13
                rw [hln]
                rw [hln] at hq13
                have HQ13 := Lib.hid hq13
                have HQ2 := Lib.hid (q_below HQr.out hB2)
                have HB2 := Lib.hid (HBi.out.below.trans (hB2.mono HBi.out.below.size))
                clear HSc hq13 hB2 hln
                go_wp2_with (first | ((with_reducible refine gate_store (t := 51) (p := 12) rfl ?_); refine store_rec rfl 51 (.tmp 12) (.tmp 72) rfl info51 w2.heap.size 51 r0 Rec.zero rfl rfl (heap_alloc_new w2 (.cells Rec.zero.cells 51)) ?_; intro w3 hz3 hk3 hb3; have HZ3 := Lib.hid hz3; have HB3 := Lib.hid (hb3 w.heap.size w HB2.out.size (HB2.out.alloc HB2.out.size _)); have HK3 := Lib.hid hk3; have HR3 := Lib.hid (q_move (q_alloc HQ2.out (.cells Rec.zero.cells 51)) (fun k e => hk3.2 k (q_lt (q_alloc HQ2.out (.cells Rec.zero.cells 51)) k e) (fun e2 => Nat.lt_irrefl _ (Nat.lt_of_lt_of_eq (q_lt HQ2.out k e) e2.symm)))); have HG3 := Lib.hid (q_move (q_alloc HQ13.out (.cells Rec.zero.cells 51)) (fun k e => hk3.2 k (q_lt (q_alloc HQ13.out (.cells Rec.zero.cells 51)) k e) (fun e2 => Nat.lt_irrefl _ (Nat.lt_of_lt_of_eq (q_lt HQ13.out k e) e2.symm)))); obtain ⟨⟨bo, fo, po⟩, hA5, hco⟩ := q_cells HR3.out h0r; subst hA5; have z0 : w3.cell? ⟨bo, fo, po⟩ = some (.int .i64 r0.kind) := (hco 0 _ (by rw [show (0 : Nat) = 0 * 9 + 0 from rfl, flatR_at rs 0 h0r 0 (by decide), hr0]; rfl)); have z1 : w3.cell? ⟨bo, fo + 1, none⟩ = some (.int .u64 r0.frame) := (hco 1 _ (by rw [show (1 : Nat) = 0 * 9 + 1 from rfl, flatR_at rs 0 h0r 1 (by decide), hr0]; rfl)); have z2 : w3.cell? ⟨bo, fo + 2, none⟩ = some (.int .u8 r0.own) := (hco 2 _ (by rw [show (2 : Nat) = 0 * 9 + 2 from rfl, flatR_at rs 0 h0r 2 (by decide), hr0]; rfl)); have z3 : w3.cell? ⟨bo, fo + 3, none⟩ = some (.int .u8 r0.p0) := (hco 3 _ (by rw [show (3 : Nat) = 0 * 9 + 3 from rfl, flatR_at rs 0 h0r 3 (by decide), hr0]; rfl)); have z4 : w3.cell? ⟨bo, fo + 4, none⟩ = some (.int .u8 r0.p1) := (hco 4 _ (by rw [show (4 : Nat) = 0 * 9 + 4 from rfl, flatR_at rs 0 h0r 4 (by decide), hr0]; rfl)); have z5 : w3.cell? ⟨bo, fo + 5, none⟩ = some (.int .u64 r0.seg) := (hco 5 _ (by rw [show (5 : Nat) = 0 * 9 + 5 from rfl, flatR_at rs 0 h0r 5 (by decide), hr0]; rfl)); have z6 : w3.cell? ⟨bo, fo + 6, none⟩ = some (.int .u64 r0.first) := (hco 6 _ (by rw [show (6 : Nat) = 0 * 9 + 6 from rfl, flatR_at rs 0 h0r 6 (by decide), hr0]; rfl)); have z7 : w3.cell? ⟨bo, fo + 7, none⟩ = some (.int .u64 r0.epoch) := (hco 7 _ (by rw [show (7 : Nat) = 0 * 9 + 7 from rfl, flatR_at rs 0 h0r 7 (by decide), hr0]; rfl)); have z8 : w3.cell? ⟨bo, fo + 8, none⟩ = some (.int .u8 r0.player) := (hco 8 _ (by rw [show (8 : Nat) = 0 * 9 + 8 from rfl, flatR_at rs 0 h0r 8 (by decide), hr0]; rfl)); have s0 : w3.cell? ⟨w2.heap.size, 0, none⟩ = some (.int .i64 r0.kind) := blk_cell HZ3.out 0; have s1 : w3.cell? ⟨w2.heap.size, 1, none⟩ = some (.int .u64 r0.frame) := blk_cell HZ3.out 1; have s2 : w3.cell? ⟨w2.heap.size, 2, none⟩ = some (.int .u8 r0.own) := blk_cell HZ3.out 2; have s3 : w3.cell? ⟨w2.heap.size, 3, none⟩ = some (.int .u8 r0.p0) := blk_cell HZ3.out 3; have s4 : w3.cell? ⟨w2.heap.size, 4, none⟩ = some (.int .u8 r0.p1) := blk_cell HZ3.out 4; have s5 : w3.cell? ⟨w2.heap.size, 5, none⟩ = some (.int .u64 r0.seg) := blk_cell HZ3.out 5; have s6 : w3.cell? ⟨w2.heap.size, 6, none⟩ = some (.int .u64 r0.first) := blk_cell HZ3.out 6; have s7 : w3.cell? ⟨w2.heap.size, 7, none⟩ = some (.int .u64 r0.epoch) := blk_cell HZ3.out 7; have s8 : w3.cell? ⟨w2.heap.size, 8, none⟩ = some (.int .u8 r0.player) := blk_cell HZ3.out 8; clear hco; clear hz3 hk3 hb3))
                go_quiet (fail)
                go_wp2_with fail
                go_loopw [16] (fun t16 wz => ∃ i n : Nat, i ≤ jj ∧ t16 = .int .i64 i ∧ wz = w3.drewN n) (fun t16 _ => jj - (intOf t16).toNat)
                case atStart => exact ⟨0, nq, Nat.zero_le _, rfl, rfl⟩
                case round =>
                  obtain ⟨i, n, hi, rfl, rfl⟩ := hrel
                  by_cases hlt : i < jj
                  · have hltb : decide ((i : Int) < (jj : Int)) = true := decide_eq_true (by omega)
                    have hk0 : 0 ≤ (i : Int) := by omega
                    have hln : (m.take jj).length = jj := by rw [List.length_take, Nat.min_eq_left hjm]
                    have hlg : i < (m.take jj).length := by rw [hln]; exact hlt
                    have hl5 : i + 1 < rs.length := Nat.lt_of_le_of_lt hlt hrl
                    have hge : (m.take jj)[i] = rs[i + 1] := by rw [HNx.out i hlt hl5, List.getElem_take]
                    obtain ⟨⟨bg, fg, pg⟩, hA13, hcg⟩ := q_cells HG3.out (Nat.lt_of_le_of_lt (Nat.zero_le _) hlt)
                    subst hA13
                    obtain ⟨⟨bq, fq, pq⟩, hA5, hcq⟩ := q_cells HR3.out h0r
                    cases hA5
                    have g0 : w3.cell? ((⟨bg, fg, pg⟩ : Addr).add (i * 9)) = some (.int .i64 ((m.take jj)[i]).kind) := hcg _ _ (flatR_at (m.take jj) i hlg 0 (by omega))
                    have g1 : w3.cell? ⟨((⟨bg, fg, pg⟩ : Addr).add (i * 9)).block, ((⟨bg, fg, pg⟩ : Addr).add (i * 9)).off + 1, none⟩ = some (.int .u64 ((m.take jj)[i]).frame) := (show w3.cell? (((⟨bg, fg, pg⟩ : Addr).add (i * 9)).add 1) = _ by rw [Addr.add_add]; exact hcg _ _ (flatR_at (m.take jj) i hlg 1 (by omega)))
                    have g2 : w3.cell? ⟨((⟨bg, fg, pg⟩ : Addr).add (i * 9)).block, ((⟨bg, fg, pg⟩ : Addr).add (i * 9)).off + 2, none⟩ = some (.int .u8 ((m.take jj)[i]).own) := (show w3.cell? (((⟨bg, fg, pg⟩ : Addr).add (i * 9)).add 2) = _ by rw [Addr.add_add]; exact hcg _ _ (flatR_at (m.take jj) i hlg 2 (by omega)))
                    have g3 : w3.cell? ⟨((⟨bg, fg, pg⟩ : Addr).add (i * 9)).block, ((⟨bg, fg, pg⟩ : Addr).add (i * 9)).off + 3, none⟩ = some (.int .u8 ((m.take jj)[i]).p0) := (show w3.cell? (((⟨bg, fg, pg⟩ : Addr).add (i * 9)).add 3) = _ by rw [Addr.add_add]; exact hcg _ _ (flatR_at (m.take jj) i hlg 3 (by omega)))
                    have g4 : w3.cell? ⟨((⟨bg, fg, pg⟩ : Addr).add (i * 9)).block, ((⟨bg, fg, pg⟩ : Addr).add (i * 9)).off + 4, none⟩ = some (.int .u8 ((m.take jj)[i]).p1) := (show w3.cell? (((⟨bg, fg, pg⟩ : Addr).add (i * 9)).add 4) = _ by rw [Addr.add_add]; exact hcg _ _ (flatR_at (m.take jj) i hlg 4 (by omega)))
                    have g5 : w3.cell? ⟨((⟨bg, fg, pg⟩ : Addr).add (i * 9)).block, ((⟨bg, fg, pg⟩ : Addr).add (i * 9)).off + 5, none⟩ = some (.int .u64 ((m.take jj)[i]).seg) := (show w3.cell? (((⟨bg, fg, pg⟩ : Addr).add (i * 9)).add 5) = _ by rw [Addr.add_add]; exact hcg _ _ (flatR_at (m.take jj) i hlg 5 (by omega)))
                    have g6 : w3.cell? ⟨((⟨bg, fg, pg⟩ : Addr).add (i * 9)).block, ((⟨bg, fg, pg⟩ : Addr).add (i * 9)).off + 6, none⟩ = some (.int .u64 ((m.take jj)[i]).first) := (show w3.cell? (((⟨bg, fg, pg⟩ : Addr).add (i * 9)).add 6) = _ by rw [Addr.add_add]; exact hcg _ _ (flatR_at (m.take jj) i hlg 6 (by omega)))
                    have g7 : w3.cell? ⟨((⟨bg, fg, pg⟩ : Addr).add (i * 9)).block, ((⟨bg, fg, pg⟩ : Addr).add (i * 9)).off + 7, none⟩ = some (.int .u64 ((m.take jj)[i]).epoch) := (show w3.cell? (((⟨bg, fg, pg⟩ : Addr).add (i * 9)).add 7) = _ by rw [Addr.add_add]; exact hcg _ _ (flatR_at (m.take jj) i hlg 7 (by omega)))
                    have g8 : w3.cell? ⟨((⟨bg, fg, pg⟩ : Addr).add (i * 9)).block, ((⟨bg, fg, pg⟩ : Addr).add (i * 9)).off + 8, none⟩ = some (.int .u8 ((m.take jj)[i]).player) := (show w3.cell? (((⟨bg, fg, pg⟩ : Addr).add (i * 9)).add 8) = _ by rw [Addr.add_add]; exact hcg _ _ (flatR_at (m.take jj) i hlg 8 (by omega)))
                    have y0 : w3.cell? ((⟨bo, fo, po⟩ : Addr).add ((i + 1) * 9)) = some (.int .i64 (rs[(i + 1)]).kind) := hcq _ _ (flatR_at rs (i + 1) hl5 0 (by omega))
                    have y1 : w3.cell? ⟨((⟨bo, fo, po⟩ : Addr).add ((i + 1) * 9)).block, ((⟨bo, fo, po⟩ : Addr).add ((i + 1) * 9)).off + 1, none⟩ = some (.int .u64 (rs[(i + 1)]).frame) := (show w3.cell? (((⟨bo, fo, po⟩ : Addr).add ((i + 1) * 9)).add 1) = _ by rw [Addr.add_add]; exact hcq _ _ (flatR_at rs (i + 1) hl5 1 (by omega)))
                    have y2 : w3.cell? ⟨((⟨bo, fo, po⟩ : Addr).add ((i + 1) * 9)).block, ((⟨bo, fo, po⟩ : Addr).add ((i + 1) * 9)).off + 2, none⟩ = some (.int .u8 (rs[(i + 1)]).own) := (show w3.cell? (((⟨bo, fo, po⟩ : Addr).add ((i + 1) * 9)).add 2) = _ by rw [Addr.add_add]; exact hcq _ _ (flatR_at rs (i + 1) hl5 2 (by omega)))
                    have y3 : w3.cell? ⟨((⟨bo, fo, po⟩ : Addr).add ((i + 1) * 9)).block, ((⟨bo, fo, po⟩ : Addr).add ((i + 1) * 9)).off + 3, none⟩ = some (.int .u8 (rs[(i + 1)]).p0) := (show w3.cell? (((⟨bo, fo, po⟩ : Addr).add ((i + 1) * 9)).add 3) = _ by rw [Addr.add_add]; exact hcq _ _ (flatR_at rs (i + 1) hl5 3 (by omega)))
                    have y4 : w3.cell? ⟨((⟨bo, fo, po⟩ : Addr).add ((i + 1) * 9)).block, ((⟨bo, fo, po⟩ : Addr).add ((i + 1) * 9)).off + 4, none⟩ = some (.int .u8 (rs[(i + 1)]).p1) := (show w3.cell? (((⟨bo, fo, po⟩ : Addr).add ((i + 1) * 9)).add 4) = _ by rw [Addr.add_add]; exact hcq _ _ (flatR_at rs (i + 1) hl5 4 (by omega)))
                    have y5 : w3.cell? ⟨((⟨bo, fo, po⟩ : Addr).add ((i + 1) * 9)).block, ((⟨bo, fo, po⟩ : Addr).add ((i + 1) * 9)).off + 5, none⟩ = some (.int .u64 (rs[(i + 1)]).seg) := (show w3.cell? (((⟨bo, fo, po⟩ : Addr).add ((i + 1) * 9)).add 5) = _ by rw [Addr.add_add]; exact hcq _ _ (flatR_at rs (i + 1) hl5 5 (by omega)))
                    have y6 : w3.cell? ⟨((⟨bo, fo, po⟩ : Addr).add ((i + 1) * 9)).block, ((⟨bo, fo, po⟩ : Addr).add ((i + 1) * 9)).off + 6, none⟩ = some (.int .u64 (rs[(i + 1)]).first) := (show w3.cell? (((⟨bo, fo, po⟩ : Addr).add ((i + 1) * 9)).add 6) = _ by rw [Addr.add_add]; exact hcq _ _ (flatR_at rs (i + 1) hl5 6 (by omega)))
                    have y7 : w3.cell? ⟨((⟨bo, fo, po⟩ : Addr).add ((i + 1) * 9)).block, ((⟨bo, fo, po⟩ : Addr).add ((i + 1) * 9)).off + 7, none⟩ = some (.int .u64 (rs[(i + 1)]).epoch) := (show w3.cell? (((⟨bo, fo, po⟩ : Addr).add ((i + 1) * 9)).add 7) = _ by rw [Addr.add_add]; exact hcq _ _ (flatR_at rs (i + 1) hl5 7 (by omega)))
                    have y8 : w3.cell? ⟨((⟨bo, fo, po⟩ : Addr).add ((i + 1) * 9)).block, ((⟨bo, fo, po⟩ : Addr).add ((i + 1) * 9)).off + 8, none⟩ = some (.int .u8 (rs[(i + 1)]).player) := (show w3.cell? (((⟨bo, fo, po⟩ : Addr).add ((i + 1) * 9)).add 8) = _ by rw [Addr.add_add]; exact hcq _ _ (flatR_at rs (i + 1) hl5 8 (by omega)))
                    rw [hge] at g0 g1 g2 g3 g4 g5 g6 g7 g8
                    clear hcg hcq hge hlg hln z0 z1 z2 z3 z4 z5 z6 z7 z8 s0 s1 s2 s3 s4 s5 s6 s7 s8 heq
                    generalize rs[i + 1] = r at *
                    have heq := eq_self51 r
                    have dwi := wrap_next i rs.length hl5 hl300
                    have hk1 : 0 ≤ (i : Int) + 1 := by omega
                    have hk2 : (i : Int) + 1 < (rs.length : Int) := Int.ofNat_lt.2 hl5
                    go_wp2_with fail
                    go_quiet (fail)
                    go_wp2_with fail
                    exact ⟨⟨i + 1, _, by omega, by go_num, rfl⟩, by simp [intOf]; omega⟩
                  · have hltb : decide ((i : Int) < (jj : Int)) = false := decide_eq_false (by omega)
                    have HB4 := Lib.hid (pw_below_drewN HB3.out n)
                    go_wp2_with fail
                    refine (works_calls _ (Crc.laid_below HLy.out HB4.out)).mono ?_
                    rintro e w5 ⟨rfl, hB5⟩
                    have HB5 := Lib.hid (HB4.out.trans (hB5.mono HB4.out.size))
                    go_wp2
                    go_ret
                    exact ⟨rfl, HB5.out⟩
end Go.Proofs.YtnhjhaphfdlkfaaDoor.Sg
