/- No disk: nil, or a struct of zeros: every call (functions 37, 56, 36, 30, 9, 10, 11, 13, 14, 35). -/
import Derived.Test.YtbffgpfkgmhmhaaBMb
import Derived.Shelf.Strings.OnBuilder
import Derived.Shelf.Strings.Repeat
import Derived.Ground.Names2Prog
import Derived.Test.YtbffgpfkgmhmhaaProg
import Derived.Laws.IdiomStrings
set_option linter.unusedVariables false
set_option linter.unusedSimpArgs false
namespace Go.Proofs.Ytbffgpfkgmhmhaa.Dw
open Go.RowKit Go.Maps Go.Sort Go.Shelf Go.Proofs.YtbffgpfkgmhmhaaW.PrintWords Go.Proofs.YtbffgpfkgmhmhaaW.PrintLast Go.Proofs.YtbffgpfkgmhmhaaW.PrintMore Go.Proofs.Dk
set_option maxRecDepth 100000
/-- No disk: nil, or a struct of zeros. -/
def NoD (w : World) (p : Option Addr) : Prop := ∀ a, p = some a → ∃ b, a = ⟨b, 0, none⟩ ∧ w.cell? ⟨b, 1, none⟩ = some (.map none)
theorem NoD.below {w w' : World} {p : Option Addr} (h : NoD w p) (hB : Below w.heap.size w w') : NoD w' p := fun a ha => by
  obtain ⟨b, rfl, hc⟩ := h a ha
  exact ⟨b, rfl, cell_below hc hB⟩
theorem is_no (w : World) {p : Option Addr} (h : NoD w p) : Calls Try.prog 37 #[.pointer p] w fun e w' => e = .returned (.bool false) ∧ w' = w := by
  cases p with
  | none => exact is_nil w
  | some a =>
    obtain ⟨b, rfl, h0⟩ := h a rfl
    exact is_zero w b h0
theorem may_no (w : World) {p : Option Addr} (h : NoD w p) (v : Value) : Calls Try.prog 56 #[.pointer p, v] w fun e w' => e = .returned (.int .i64 1) ∧ w' = w := by
  go_enter Try.func56, Try.ntmps56
  go_wp2_with (first | (go_at_call 37; refine (is_no _ h).mono ?_; rintro e w' ⟨rfl, hw'⟩; obtain rfl := hw'.symm))
  go_ret
  exact ⟨rfl, rfl⟩
theorem find_no (w : World) {p : Option Addr} (h : NoD w p) (n : Tx) : Calls Try.prog 36 #[.pointer p, .string (bs n), .slice none 0 0] w fun e w' => e = .returned (.tuple #[.pointer none, .int .i64 1]) ∧ Below w.heap.size w w' := by
  have HB1 := Lib.hid ((Below.refl w.heap.size w).alloc (Nat.le_refl _) (.cells #[.string (bs n)] 9))
  have HN := Lib.hid (h.below HB1.out)
  clear h
  go_enter Try.func36, Try.ntmps36
  go_wp2_with fail
  refine (may_no _ HN.out _).mono ?_
  rintro e w' ⟨rfl, hw'⟩
  obtain rfl := hw'.symm
  go_wp2_with fail
  go_ret2
  exact ⟨rfl, HB1.out⟩
theorem create_no (w : World) {p : Option Addr} (h : NoD w p) (n : Tx) : Calls Try.prog 30 #[.pointer p, .string (bs n)] w fun e w' => e = .returned (.int .i64 1) ∧ Below w.heap.size w w' := by
  have HF := Lib.hid (find_no w h n)
  clear h
  go_enter Try.func30, Try.ntmps30
  go_wp2_with fail
  refine HF.out.mono ?_
  rintro e w' ⟨rfl, hB⟩
  have HB := Lib.hid hB
  clear hB HF
  go_wp2_with fail
  go_ret
  exact ⟨rfl, HB.out⟩
theorem read_no (w : World) {p : Option Addr} (h : NoD w p) (n : Tx) : Calls Try.prog 9 #[.pointer p, .string (bs n)] w fun e w' => e = .returned (.tuple #[.string ⟨#[]⟩, .int .i64 1]) ∧ Below w.heap.size w w' := by
  have HF := Lib.hid (find_no w h n)
  clear h
  go_enter Try.func9, Try.ntmps9
  go_wp2_with fail
  refine HF.out.mono ?_
  rintro e w' ⟨rfl, hB⟩
  have HB := Lib.hid hB
  clear hB HF
  go_wp2_with fail
  go_ret2
  exact ⟨rfl, HB.out⟩
theorem synced_no (w : World) {p : Option Addr} (h : NoD w p) (n : Tx) : Calls Try.prog 10 #[.pointer p, .string (bs n)] w fun e w' => e = .returned (.int .i64 0) ∧ Below w.heap.size w w' := by
  have HF := Lib.hid (find_no w h n)
  clear h
  go_enter Try.func10, Try.ntmps10
  go_wp2_with fail
  refine HF.out.mono ?_
  rintro e w' ⟨rfl, hB⟩
  have HB := Lib.hid hB
  clear hB HF
  go_wp2_with fail
  go_ret
  exact ⟨rfl, HB.out⟩
theorem copy_no (w : World) {p : Option Addr} (h : NoD w p) : Calls Try.prog 11 #[.pointer p] w fun e w' => e = .returned (.pointer none) ∧ Below w.heap.size w w' := by
  have HI := Lib.hid (is_no w h)
  clear h
  go_enter Try.func11, Try.ntmps11
  go_wp2_with (first | (go_at_call 37; refine HI.out.mono ?_; rintro e w' ⟨rfl, hw'⟩; obtain rfl := hw'.symm))
  go_ret
  exact ⟨rfl, Below.refl _ _⟩
/-! ### the loops over no files -/
set_option maxHeartbeats 2000000 in
theorem each_stops_no (own : World → Nat → Prop) (w : World) {p : Option Addr} (hD : NoD w p) (B : Nat) (hBc : w.cell? ⟨B, 0, none⟩ = some (.pointer p))
    (h2 : ∀ k, own w k → k < w.heap.size) :
    SeqStopsK Fence.wide 6 Try.prog 57 #[.pointer (some ⟨B, 0, none⟩)] (encF (L := [])) (Keep own) (fun xs => xs.map (·.1) = []) (fun _ => True) 0 w := fun l J Jx W hW hJ hJx hY h0 => by
  have hb0 : W.cell? ⟨B, 0, none⟩ = some (.pointer p) := cell_below hBc hW
  have HI := Lib.hid (fun n => (callsIn_wide (n := n)).2 (is_no W (hD.below hW)))
  have hf1 : Fence.wide.fn 37 := trivial
  have H0 := Lib.hid h0
  clear h0 hJ hJx hY
  refine callsIn_of_wp Try.func57 rfl trivial ?_ rfl
  simp only [Try.ntmps57, List.size_toArray, List.length_cons, List.length_nil, Nat.reduceAdd, Nat.reduceSub, Array.replicate_succ, Array.replicate_zero, List.push_toArray, List.append_toArray, List.nil_append, List.cons_append]
  gi_wp2_with (first
    | (gi_at_call 37; refine (HI.out _).mono ?_; rintro e w' ⟨rfl, hw'⟩; obtain rfl := hw'.symm; clear hw'))
  refine bodyPost_ret (results_none rfl _ _ _) rfl ?_
  exact ⟨⟨_, rfl⟩, .inl ⟨[], rfl, H0.out⟩⟩
set_option maxHeartbeats 2000000 in
theorem used_no (w : World) {p : Option Addr} (hD : NoD w p) :
    Calls Try.prog 14 #[.pointer p] w fun e w' => e = .returned (.int .i64 0) ∧ RowKit.Below w.heap.size w w' := by
  have hf1 : Fence.wide.fn 38 := trivial
  have hmix : Try.prog.follows .mixedOrders = true := by kernel_rfl
  refine (callsIn_wide (n := 7)).1 ?_
  refine callsIn_of_wp_marks Try.func14 rfl trivial ?_ rfl
  simp only [Try.ntmps14, List.size_toArray, List.length_cons, List.length_nil, Nat.reduceAdd, Nat.reduceSub, Array.replicate_succ, Array.replicate_zero, List.push_toArray, List.append_toArray, List.nil_append, List.cons_append]
  gi_wp2_with (gi_at_call 38; refine (callsIn_wide.2 (each_calls _ _)).mono ?_; rintro e w' ⟨rfl, rfl⟩)
  have HDb := Lib.hid hD
  have HW1 := Lib.hid (show RowKit.Below w.heap.size w ((w.alloc (.cells #[.int .i64 0] 3)).alloc (.cells #[.pointer p] 23)) from ((RowKit.Below.refl _ w).alloc (Nat.le_refl _) _).alloc (by simp) _)
  have hs0 := cell_new_l2 w (.int .i64 0) 3 (.cells #[.pointer p] 23)
  have hs1 := cell_new_l3 w (.cells #[.int .i64 0] 3) (.pointer p) 23
  refine wpIn_rangeFunc_ownG rfl (by omega) (gf := 57) (lb := #[.pointer (some ⟨w.heap.size + 1, 0, none⟩)]) rfl trivial (enters_of Try.func57 (by kernel_rfl) rfl)
    (each_stops_no (fun _ k => k = w.heap.size) ((w.alloc (.cells #[.int .i64 0] 3)).alloc (.cells #[.pointer p] 23)) (hD.below HW1.out) (w.heap.size + 1) hs1 (fun k h => by subst h; simp; omega))
    (fun h k => h.trans k) (fun W l o o' hl h hc hw => keep_putObj W l o o' h hc hw) (RowKit.Below.refl _ _) (fun _ => rfl)
    (fun pre W => (W.cell? ⟨w.heap.size, 0, none⟩ = some (.int .i64 (sumF pre : Int)) ∧ W.frozen? ⟨w.heap.size, 0, none⟩ = false) ∧ RowKit.Below w.heap.size w W)
    (fun _ _ _ => False)
    (OwnFrom.and (Own.from (fun s A B row hs hg hr => ⟨cell_kept hs.1 hg hr, (frozen_kept hs.1 hg hr).trans hs.2⟩) _) (ownFrom_below (Nat.le_refl _) (by simp; omega)))
    (fun _ _ _ _ _ hs _ _ => hs)
    ⟨hs0, HW1.out⟩
    (fun x => { tmps := #[.pointer p, undef, .pointer (some ⟨w.heap.size, 0, none⟩), undef, .pointer (some ⟨x.1.2.1, 0, none⟩), .pointer p, .func (.func 57) #[] #[.pointer (some ⟨w.heap.size + 1, 0, none⟩)], .string (bs x.1.1), .pointer (some ⟨x.1.2.1, 0, none⟩), undef, undef, undef, undef, undef, undef, undef, undef], defers := [] }) ?assign ?body ?done ?stop
  case assign =>
    intro l x
    exact (List.not_mem_nil x.2).elim
  case body =>
    rintro l pre x
    exact (List.not_mem_nil x.2).elim
  case done =>
    rintro D ys W hD' hS ⟨⟨hc, hfz⟩, hB⟩ hK
    have hDs : w.heap.size + 2 ≤ D := by simpa using hD'
    have hall : sumF ys = 0 := by rw [sumF_all ys hS]; rfl
    have hB2 := Lib.hid hB
    have hD3 : w.heap.size ≤ D := by omega
    rw [hall] at hc
    clear hB hD' hall
    gi_wp2
    have hK2 := (KeepsOthers.setCell W ⟨w.heap.size, 0, none⟩ (.int .i64 0)).same D _ hK rfl
    refine ⟨by simp, .inl ⟨_, _, rfl, run_takeDeferred hK2, ?_⟩⟩
    have hc2 : (W.setCell ⟨w.heap.size, 0, none⟩ (.int .i64 0)).cell? ⟨w.heap.size, 0, none⟩ = some (.int .i64 0) := World.cell?_setCell_same' _ _ _ (by rw [hc]; rfl)
    have hc3 := cell_kept hc2 (grownBy_putObj' _ D (.deferred none)) (fun r e => by cases e; exact ⟨_, hK2, rfl⟩)
    refine ⟨_, results_one rfl rfl hc3 (.inl Try.underlying3), rfl, ?_⟩
    exact (hB2.out.setCell (p := ⟨w.heap.size, 0, none⟩) (Nat.le_refl _) _).trans (belowK_b (w := w) (Nat.le_refl _) _ D _ _ hD3 hK2 rfl rfl)
  case stop =>
    rintro D c pre W _ _ h _
    exact h.elim
set_option maxHeartbeats 2000000 in
theorem list_no (w : World) {p : Option Addr} (hD : NoD w p) :
    Calls Try.prog 13 #[.pointer p] w fun e w' => ∃ A cap, e = .returned (.slice A 0 cap) ∧ RowKit.Below w.heap.size w w' := by
  have hf1 : Fence.wide.fn 38 := trivial
  refine (callsIn_wide (n := 7)).1 ?_
  refine callsIn_of_wp_marks Try.func13 rfl trivial ?_ rfl
  simp only [Try.ntmps13, List.size_toArray, List.length_cons, List.length_nil, Nat.reduceAdd, Nat.reduceSub, Array.replicate_succ, Array.replicate_zero, List.push_toArray, List.append_toArray, List.nil_append, List.cons_append]
  gi_wp2_with (gi_at_call 38; refine (callsIn_wide.2 (each_calls _ _)).mono ?_; rintro e w' ⟨rfl, rfl⟩)
  have HDb := Lib.hid hD
  have HW1 := Lib.hid (show RowKit.Below w.heap.size w ((w.alloc (.cells #[.slice none 0 0] 37)).alloc (.cells #[.pointer p] 23)) from ((RowKit.Below.refl _ w).alloc (Nat.le_refl _) _).alloc (by simp) _)
  have hb1 : Boxed ((w.alloc (.cells #[.slice none 0 0] 37)).alloc (.cells #[.pointer p] 23)) w.heap.size 37 (.slice none 0 0) := (Boxed.new w 37 (.slice none 0 0)).alloc _
  have hs1 := cell_new_l3 w (.cells #[.slice none 0 0] 37) (.pointer p) 23
  refine wpIn_rangeFunc_ownG rfl (by omega) (gf := 57) (lb := #[.pointer (some ⟨w.heap.size + 1, 0, none⟩)]) rfl trivial (enters_of Try.func57 (by kernel_rfl) rfl)
    (each_stops_no (ownL w.heap.size) ((w.alloc (.cells #[.slice none 0 0] 37)).alloc (.cells #[.pointer p] 23)) (hD.below HW1.out) (w.heap.size + 1) hs1 ?own2)
    (fun h k => h.trans k) (fun W l o o' hl h hc hw => keep_putL w.heap.size W l o o' (by simp at hl; omega) h hc hw) (RowKit.Below.refl _ _) (fun _ => rfl)
    (fun pre W => (∃ v, Boxed W w.heap.size 37 v ∧ W.ownsRow w.heap.size 9 1 v pre.length (namesF pre) ∧ True) ∧ RowKit.Below w.heap.size w W)
    (fun _ _ _ => False)
    (OwnFrom.and (Own.from (holdsRow_own w.heap.size w.heap.size 37 9 1 (fun pre => pre.length) (fun pre => namesF pre) (fun _ _ => True)) _) (ownFrom_below (Nat.le_refl _) (by simp; omega)))
    (fun _ _ _ _ _ hs _ _ => hs)
    ⟨⟨_, hb1, World.ownsRow_nil _ _ _ _, trivial⟩, HW1.out⟩
    (fun x => { tmps := #[.pointer p, undef, .pointer (some ⟨w.heap.size, 0, none⟩), .string (bs x.1.1), .pointer p, .func (.func 57) #[] #[.pointer (some ⟨w.heap.size + 1, 0, none⟩)], .string (bs x.1.1), .pointer (some ⟨x.1.2.1, 0, none⟩), undef, undef, undef, undef, undef], defers := [] }) ?assign ?body ?done ?stop
  case own2 =>
    intro k hk
    have hk1 : k = w.heap.size := by
      rcases hk with hk | ⟨u, hu, hk⟩
      · exact hk
      · rw [hb1.cell] at hu; cases hu; cases hk
    subst hk1
    simp
    omega
  case assign =>
    intro l x
    exact (List.not_mem_nil x.2).elim
  case body =>
    rintro l pre x
    exact (List.not_mem_nil x.2).elim
  case done =>
    rintro D ys W hD' hS ⟨⟨v, hv, hrow, _⟩, hB⟩ hK
    have hDs : w.heap.size + 2 ≤ D := by simpa using hD'
    have hy0 : ys.length = 0 := by have := congrArg List.length hS; simpa using this
    have hc := hv.cell
    have hB2 := Lib.hid hB
    have hD3 : w.heap.size ≤ D := by omega
    obtain ⟨A, cap, hvs⟩ : ∃ A cap, v = .slice A 0 cap := by
      rcases hrow.2 with ⟨rfl, h0⟩ | ⟨g, cap, cur, rfl, _⟩
      · exact ⟨none, 0, rfl⟩
      · rw [hy0]; exact ⟨_, cap, rfl⟩
    subst hvs
    have hfz := hv.frozen
    clear hB hD' hrow
    gi_wp2
    have hK2 := (KeepsOthers.setCell W ⟨w.heap.size, 0, none⟩ (.slice A 0 cap)).same D _ hK rfl
    refine ⟨by simp, .inl ⟨_, _, rfl, run_takeDeferred hK2, ?_⟩⟩
    have hc2 : (W.setCell ⟨w.heap.size, 0, none⟩ (.slice A 0 cap)).cell? ⟨w.heap.size, 0, none⟩ = some (.slice A 0 cap) := World.cell?_setCell_same' _ _ _ (by rw [hc]; rfl)
    have hc3 := cell_kept hc2 (grownBy_putObj' _ D (.deferred none)) (fun r e => by cases e; exact ⟨_, hK2, rfl⟩)
    refine ⟨_, results_one rfl rfl hc3 (.inr ⟨_, Try.underlying37⟩), _, _, rfl, ?_⟩
    exact (hB2.out.setCell (p := ⟨w.heap.size, 0, none⟩) (Nat.le_refl _) _).trans (belowK_b (w := w) (Nat.le_refl _) _ D _ _ hD3 hK2 rfl rfl)
  case stop =>
    rintro D c pre W _ _ h _
    exact h.elim
set_option maxHeartbeats 2000000 in
theorem crash_no (w : World) {p : Option Addr} (hD : NoD w p) (A : Option Addr) (n cap : Nat) :
    Calls Try.prog 35 #[.pointer p, .slice A n cap] w fun e w' => (∃ v, e = .returned v) ∧ RowKit.Below w.heap.size w w' := by
  have hf1 : Fence.wide.fn 38 := trivial
  have hmix : Try.prog.follows .mixedOrders = true := by kernel_rfl
  refine (callsIn_wide (n := 7)).1 ?_
  refine callsIn_of_wp_marks Try.func35 rfl trivial ?_ rfl
  simp only [Try.ntmps35, List.size_toArray, List.length_cons, List.length_nil, Nat.reduceAdd, Nat.reduceSub, Array.replicate_succ, Array.replicate_zero, List.push_toArray, List.append_toArray, List.nil_append, List.cons_append]
  gi_wp2_with (gi_at_call 38; refine (callsIn_wide.2 (each_calls _ _)).mono ?_; rintro e w' ⟨rfl, rfl⟩)
  have HDb := Lib.hid hD
  obtain ⟨W1, hW1⟩ : ∃ W1, ((w.alloc (.cells #[.slice A n cap] 34)).alloc (.cells #[.int .i64 0] 3)).alloc (.cells #[.pointer p] 23) = W1 := ⟨_, rfl⟩
  have hsz1 : W1.heap.size = w.heap.size + 3 := by rw [← hW1]; simp
  have HW1 := Lib.hid (show RowKit.Below w.heap.size w W1 by rw [← hW1]; exact (((RowKit.Below.refl _ w).alloc (Nat.le_refl _) _).alloc (by simp) _).alloc (by simp; omega) _)
  have hs1 : W1.cell? ⟨w.heap.size + 1 + 1, 0, none⟩ = some (.pointer p) := by
    rw [← hW1]
    have := cell_new_l3 (w.alloc (.cells #[.slice A n cap] 34)) (.cells #[.int .i64 0] 3) (.pointer p) 23
    rw [World.size_alloc] at this
    exact this
  rw [hW1]
  clear hD
  refine wpIn_rangeFunc_ownG rfl (by omega) (gf := 57) (lb := #[.pointer (some ⟨w.heap.size + 1 + 1, 0, none⟩)]) rfl trivial (enters_of Try.func57 (by kernel_rfl) rfl)
    (each_stops_no (fun _ k => k = w.heap.size) W1 (HDb.out.below HW1.out) (w.heap.size + 1 + 1) hs1 (fun k h => by subst h; omega))
    (fun h k => h.trans k) (fun W l o o' hl h hc hw => keep_putObj W l o o' h hc hw) (RowKit.Below.refl _ _) (fun _ => rfl)
    (fun pre W => True ∧ RowKit.Below w.heap.size w W)
    (fun _ _ _ => False)
    (OwnFrom.and (fun s X Y row hs hg hr => trivial) (ownFrom_below (by omega) (by omega)))
    (fun _ _ _ _ _ hs _ _ => hs)
    ⟨trivial, HW1.out⟩
    (fun x => { tmps := #[.pointer p, .slice A n cap, undef, .pointer (some ⟨w.heap.size, 0, none⟩), .pointer (some ⟨w.heap.size + 1, 0, none⟩), undef, .pointer (some ⟨x.1.2.1, 0, none⟩), undef, undef, .pointer p, .func (.func 57) #[] #[.pointer (some ⟨w.heap.size + 1 + 1, 0, none⟩)], .string (bs x.1.1), .pointer (some ⟨x.1.2.1, 0, none⟩), undef, undef, undef, undef, undef, undef, undef, undef, undef, undef, undef, undef, undef, undef, undef, undef, undef, undef, undef, undef, undef, undef, undef, undef, undef, undef, undef, undef, undef, undef, undef, undef, undef, undef, undef, undef, undef, undef, undef, undef, undef, undef, undef, undef, undef, undef, undef, undef, undef], defers := [] }) ?assign ?body ?done ?stop
  case assign =>
    intro l x
    exact (List.not_mem_nil x.2).elim
  case body =>
    rintro l pre x
    exact (List.not_mem_nil x.2).elim
  case done =>
    rintro D ys W hD' hS ⟨_, hB⟩ hK
    have hDs : w.heap.size + 3 ≤ D := by omega
    have HB := Lib.hid hB
    have hD3 : w.heap.size ≤ D := by omega
    clear hB
    gi_wp2
    refine ⟨by simp, .inl ⟨_, _, rfl, run_takeDeferred hK, ?_⟩⟩
    exact ⟨_, results_none rfl _ _ _, ⟨_, rfl⟩, HB.out.trans (belowK_b (w := w) (Nat.le_refl _) W D _ _ hD3 hK rfl rfl)⟩
  case stop =>
    rintro D c pre W _ _ h _
    exact h.elim
end Go.Proofs.Ytbffgpfkgmhmhaa.Dw
/-
  DERIVED: THE SHELF's CONTRACTS AT THIS DUMP, IN PLAIN WORDS (tools/lay-plain.mjs out of 'TryShelf.lean', which tools/lay-shelf.mjs wrote): THE SAME DECLARATIONS UNDER THE SAME NAMES: 'import', 'namespace', 'open', 'def', 'theorem' AND NOTHING ELSE: no command of the shelf's: FOR A HAND-IN. Each laying: the table of numbers ('.._ren') and one theorem, a field a fact of the dump's own or the kernel's comparison; each contract: ONE APPLICATION.
-/
namespace Go.Proofs
open Go.Shelf
def Try.lays156_ren : Go.Shelf.Ren := ⟨fun | 156 => 34 | 165 => 52 | 166 => 53 | 169 => 55 | 240 => 68 | 241 => 69 | 276 => 81 | 277 => 82 | n => n, fun | 31 => 37 | 9 => 9 | 3 => 3 | 4 => 4 | 0 => 0 | 20 => 20 | 72 => 91 | 76 => 95 | 70 => 89 | 37 => 66 | 75 => 94 | 127 => 115 | 164 => 126 | 5 => 5 | 80 => 97 | n => n, fun | n => n⟩
theorem Try.lays156 : Go.Proofs.Lays.n156 Try.prog Try.lays156_ren := {
  mixed := by kernel_rfl
  f156 := Try.func34.trans (congrArg some (by kernel_rfl))
  f165 := Try.func52.trans (congrArg some (by kernel_rfl))
  f166 := Try.func53.trans (congrArg some (by kernel_rfl))
  f169 := Try.func55.trans (congrArg some (by kernel_rfl))
  f240 := Try.func68.trans (congrArg some (by kernel_rfl))
  f241 := Try.func69.trans (congrArg some (by kernel_rfl))
  f276 := Try.func81.trans (congrArg some (by kernel_rfl))
  f277 := Try.func82.trans (congrArg some (by kernel_rfl))
  t0 := Try.underlying0
  a0 := Try.isAgg0
  z0 := Try.sizeOf0
  v0 := Try.zeroValue0
  t3 := Try.underlying3
  a3 := Try.isAgg3
  z3 := Try.sizeOf3
  v3 := Try.zeroValue3
  t4 := Try.underlying4
  a4 := Try.isAgg4
  z4 := Try.sizeOf4
  v4 := Try.zeroValue4
  t9 := Try.underlying9
  a9 := Try.isAgg9
  z9 := Try.sizeOf9
  v9 := Try.zeroValue9
  t20 := Try.underlying20
  a20 := Try.isAgg20
  z20 := Try.sizeOf20
  v20 := Try.zeroValue20
  t31 := Try.underlying37
  a31 := Try.isAgg37
  z31 := Try.sizeOf37
  v31 := Try.zeroValue37
  t37 := Try.underlying66
  a37 := Try.isAgg66
  z37 := Try.sizeOf66
  v37 := Try.zeroValue66
  t70 := Try.underlying89
  a70 := Try.isAgg89
  z70 := Try.sizeOf89
  v70 := Try.zeroValue89
  t72 := Try.underlying91
  a72 := Try.isAgg91
  z72 := Try.sizeOf91
  v72 := Try.zeroValue91
  t75 := Try.underlying94
  a75 := Try.isAgg94
  z75 := Try.sizeOf94
  v75 := Try.zeroValue94
  t76 := Try.underlying95
  a76 := Try.isAgg95
  z76 := Try.sizeOf95
  v76 := Try.zeroValue95
  t127 := Try.underlying115
  a127 := Try.isAgg115
  z127 := Try.sizeOf115
  v127 := Try.zeroValue115
  t164 := Try.underlying126
  a164 := Try.isAgg126
  z164 := Try.sizeOf126
  v164 := Try.zeroValue126 }
theorem Try.Builder_Extra_156 : Builder.Extra Try.prog Try.lays156_ren := {
  sizeBuilder := by kernel_rfl
  liesBuilder := by kernel_rfl
  t5 := Try.underlying5
  a5 := Try.isAgg5
  z5 := Try.sizeOf5
  v5 := Try.zeroValue5
  infoByte := by kernel_rfl
  cellsByte := by kernel_rfl
  sizeByte := by kernel_rfl
  neB5 := by decide }
open Go.RowKit in
open Go.RowKit in
/-- strings.Join: "Join concatenates the elements of its first argument to create a single string. The separator string sep is placed between elements in the resulting string.": HOWEVER MANY ELEMENTS. Below the heap's end the world is as it was. (LAID: no walk: one application.) -/
theorem Try.strings_Join (bk o c : Nat) (xs : List ByteArray) (sep : ByteArray) (w : World) (hcells : ∀ (j : Nat) x, xs[j]? = some x → w.cell? ⟨bk, o + j, none⟩ = some (.string x)) (hbk : bk < w.heap.size) (hN : xs.length ≤ 140737488355328) (hcap : xs.length ≤ c) (hlen : (Lib.join (xs.map (·.data.toList)) sep.data.toList).length ≤ 140737488355328) :
    Calls Try.prog 34 #[.slice (some ⟨bk, o, none⟩) xs.length c, .string sep] w fun e w' => e = .returned (.string ⟨(Lib.join (xs.map (·.data.toList)) sep.data.toList).toArray⟩) ∧ Below w.heap.size w w' := Any.strings_Join Try.lays156 Try.Builder_Extra_156 bk o c xs sep w hcells hbk hN hcap hlen
def Try.lays105_ren : Go.Shelf.Ren := ⟨fun | 105 => 31 | 212 => 50 | 99 => 51 | 165 => 52 | 166 => 53 | 170 => 54 | 169 => 55 | 263 => 65 | 264 => 66 | 206 => 67 | 240 => 68 | 241 => 69 | 276 => 81 | 277 => 82 | n => n, fun | 9 => 9 | 3 => 3 | 4 => 4 | 20 => 20 | 0 => 0 | 46 => 85 | 109 => 86 | 5 => 5 | 72 => 91 | 76 => 95 | 51 => 52 | 146 => 110 | 53 => 112 | 148 => 113 | 70 => 89 | 37 => 66 | 75 => 94 | 127 => 115 | 164 => 126 | 80 => 97 | n => n, fun | n => n⟩
theorem Try.lays105 : Go.Proofs.Lays.n105 Try.prog Try.lays105_ren := {
  mixed := by kernel_rfl
  f99 := Try.func51.trans (congrArg some (by kernel_rfl))
  f105 := Try.func31.trans (congrArg some (by kernel_rfl))
  f165 := Try.func52.trans (congrArg some (by kernel_rfl))
  f166 := Try.func53.trans (congrArg some (by kernel_rfl))
  f169 := Try.func55.trans (congrArg some (by kernel_rfl))
  f170 := Try.func54.trans (congrArg some (by kernel_rfl))
  f206 := Try.func67.trans (congrArg some (by kernel_rfl))
  f212 := Try.func50.trans (congrArg some (by kernel_rfl))
  f240 := Try.func68.trans (congrArg some (by kernel_rfl))
  f241 := Try.func69.trans (congrArg some (by kernel_rfl))
  f263 := Try.func65.trans (congrArg some (by kernel_rfl))
  f264 := Try.func66.trans (congrArg some (by kernel_rfl))
  f276 := Try.func81.trans (congrArg some (by kernel_rfl))
  f277 := Try.func82.trans (congrArg some (by kernel_rfl))
  t0 := Try.underlying0
  a0 := Try.isAgg0
  z0 := Try.sizeOf0
  v0 := Try.zeroValue0
  t3 := Try.underlying3
  a3 := Try.isAgg3
  z3 := Try.sizeOf3
  v3 := Try.zeroValue3
  t4 := Try.underlying4
  a4 := Try.isAgg4
  z4 := Try.sizeOf4
  v4 := Try.zeroValue4
  t5 := Try.underlying5
  a5 := Try.isAgg5
  z5 := Try.sizeOf5
  v5 := Try.zeroValue5
  t9 := Try.underlying9
  a9 := Try.isAgg9
  z9 := Try.sizeOf9
  v9 := Try.zeroValue9
  t20 := Try.underlying20
  a20 := Try.isAgg20
  z20 := Try.sizeOf20
  v20 := Try.zeroValue20
  t37 := Try.underlying66
  a37 := Try.isAgg66
  z37 := Try.sizeOf66
  v37 := Try.zeroValue66
  t46 := Try.underlying85
  a46 := Try.isAgg85
  z46 := Try.sizeOf85
  v46 := Try.zeroValue85
  t51 := Try.underlying52
  a51 := Try.isAgg52
  z51 := Try.sizeOf52
  v51 := Try.zeroValue52
  t53 := Try.underlying112
  a53 := Try.isAgg112
  z53 := Try.sizeOf112
  v53 := Try.zeroValue112
  t70 := Try.underlying89
  a70 := Try.isAgg89
  z70 := Try.sizeOf89
  v70 := Try.zeroValue89
  t72 := Try.underlying91
  a72 := Try.isAgg91
  z72 := Try.sizeOf91
  v72 := Try.zeroValue91
  t75 := Try.underlying94
  a75 := Try.isAgg94
  z75 := Try.sizeOf94
  v75 := Try.zeroValue94
  t76 := Try.underlying95
  a76 := Try.isAgg95
  z76 := Try.sizeOf95
  v76 := Try.zeroValue95
  t109 := Try.underlying86
  a109 := Try.isAgg86
  z109 := Try.sizeOf86
  v109 := Try.zeroValue86
  t127 := Try.underlying115
  a127 := Try.isAgg115
  z127 := Try.sizeOf115
  v127 := Try.zeroValue115
  t146 := Try.underlying110
  a146 := Try.isAgg110
  z146 := Try.sizeOf110
  v146 := Try.zeroValue110
  t148 := Try.underlying113
  a148 := Try.isAgg113
  z148 := Try.sizeOf113
  v148 := Try.zeroValue113
  t164 := Try.underlying126
  a164 := Try.isAgg126
  z164 := Try.sizeOf126
  v164 := Try.zeroValue126 }
theorem Try.Builder_Extra_105 : Builder.Extra Try.prog Try.lays105_ren := {
  sizeBuilder := by kernel_rfl
  liesBuilder := by kernel_rfl
  t5 := Try.underlying5
  a5 := Try.isAgg5
  z5 := Try.sizeOf5
  v5 := Try.zeroValue5
  infoByte := by kernel_rfl
  cellsByte := by kernel_rfl
  sizeByte := by kernel_rfl
  neB5 := by decide }
open Go.RowKit Go.Lib in
/-- **strings.Repeat: count ≥ 0, the result within one allocation: count copies of s.** (LAID: no walk: one application.) -/
theorem Try.strings_Repeat (s : ByteArray) (c : Nat) (w : World) (hc : c ≤ 9223372036854775807) (hlen : s.size * c ≤ 140737488355328) :
    Calls Try.prog 31 #[.string s, .int .i64 c] w fun e w' => e = .returned (.string ⟨(Lib.repeatL s.data.toList c).toArray⟩) ∧ Below w.heap.size w w' := Any.strings_Repeat Try.lays105 Try.Builder_Extra_105 s c w hc hlen
end Go.Proofs
/- DiskKnown's plain facts: the example's states, the full disk; strings.Repeat, Join in these words. -/
set_option linter.unusedVariables false
set_option linter.unusedSimpArgs false
namespace Go.Proofs.Dk
instance decFl : DecidableEq Fl := fun a b => decidable_of_iff (a.b = b.b ∧ a.s = b.s) (by cases a; cases b; simp)
def a32 : Tx := List.replicate 32 97
def a33 : Tx := List.replicate 33 97
def s0 : FS := [([97], ⟨[49, 50, 51, 52, 53], 3⟩)]
def s1 : FS := [([97], ⟨[49, 50, 51, 52, 53, 54, 55, 56, 57, 48], 3⟩)]
def s2 : FS := [([97], ⟨[49, 50, 51, 52, 53, 54, 55, 56, 57, 48], 3⟩), (a32, ⟨[], 0⟩)]
def zn : Tx := [48, 46, 45, 122]
def s3 : FS := [(zn, ⟨[], 0⟩), ([97], ⟨[49, 50, 51, 52, 53, 54, 55, 56, 57, 48], 3⟩), (a32, ⟨[], 0⟩)]
def s4 : FS := [(zn, ⟨[], 0⟩), (a32, ⟨[], 0⟩), ([98], ⟨[49, 50, 51, 52, 53, 54, 55, 56, 57, 48], 3⟩)]
def s5 : FS := [(a32, ⟨[], 0⟩), ([98], ⟨[49, 50, 51, 52, 53, 54, 55, 56, 57, 48], 3⟩)]
theorem st_1 : append 10 s0 [97] [54, 55, 56, 57, 48, 49] = (s0, 7) := by decide +kernel
theorem st_2 : append 10 s0 [97] [54, 55, 56, 57, 48] = (s1, 0) := by decide +kernel
theorem st_3 : append 10 s1 [97] [120] = (s1, 7) := by decide +kernel
theorem st_4 : append 10 s1 [97] [] = (s1, 0) := by decide +kernel
theorem st_5 : create s1 [65] = (s1, 2) := by decide +kernel
theorem st_6 : create s1 [] = (s1, 2) := by decide +kernel
theorem st_7 : create s1 [97] = (s1, 6) := by decide +kernel
theorem st_8 : create s1 a33 = (s1, 2) := by decide +kernel
theorem st_9 : create s1 a32 = (s2, 0) := by decide +kernel
theorem st_10 : create s2 zn = (s3, 0) := by decide +kernel
theorem st_11 : used s3 = 10 := by decide +kernel
theorem st_12 : rename s3 [97] [98] = (s4, 0) := by decide +kernel
theorem st_13 : rename s4 [97] [99] = (s4, 5) := by decide +kernel
theorem st_14 : rename s4 [98] [98] = (s4, 0) := by decide +kernel
theorem st_15 : rename s4 [98] [66] = (s4, 2) := by decide +kernel
theorem st_16 : rename s4 [120] [] = (s4, 2) := by decide +kernel
theorem st_17 : remove s4 zn = (s5, 0) := by decide +kernel
theorem st_18 : remove s5 zn = (s5, 5) := by decide +kernel
theorem st_19 : synced s5 [98] = 3 := by decide +kernel
/-- The full disk. -/
def lo8 (i : Nat) : UInt8 := UInt8.ofNat (97 + i / 8)
def hi8 (i : Nat) : UInt8 := UInt8.ofNat (97 + i % 8)
def nm (i : Nat) : Tx := [102, lo8 i, hi8 i]
def fulls (i : Nat) : FS := (List.range i).map fun j => (nm j, ⟨[], 0⟩)
theorem full_all : ∀ i : Fin 64, create (fulls i) (nm i) = (fulls (i + 1), 0) := by decide +kernel
theorem full_step (i : Nat) (h : i < 64) : create (fulls i) (nm i) = (fulls (i + 1), 0) := full_all ⟨i, h⟩
theorem full_g : create (fulls 64) [103] = (fulls 64, 7) := by decide +kernel
def big : Tx := List.replicate 65536 120
theorem big_len : big.length = 65536 := List.length_replicate
def t1 : FS := upd (fulls 64) [102, 97, 97] (fun f => ⟨f.b ++ big, f.s⟩)
theorem full_sorted : Sorted (fulls 64) := by
  have h : ∀ i : Fin 64, ∀ j : Fin 64, i < j → before (nm i) (nm j) = true := by decide +kernel
  unfold Sorted fulls
  rw [List.pairwise_map]
  refine List.Pairwise.imp_of_mem (R := fun a b => a < b) (fun {a b} ha hb hab => ?_) List.pairwise_lt_range
  exact h ⟨a, List.mem_range.1 ha⟩ ⟨b, List.mem_range.1 hb⟩ hab
theorem full_used : used (fulls 64) = 0 := by decide +kernel
theorem full_faa : get (fulls 64) [102, 97, 97] = some ⟨[], 0⟩ := by decide +kernel
theorem full_fab : get (fulls 64) [102, 97, 98] = some ⟨[], 0⟩ := by decide +kernel
theorem name_faa : nameOk [102, 97, 97] = true := by decide
theorem name_fab : nameOk [102, 97, 98] = true := by decide
theorem full_1 : append 1048576 (fulls 64) [102, 97, 97] big = (t1, 0) := by
  unfold Dk.append
  rw [if_pos name_faa, full_faa]
  dsimp only
  rw [if_neg (by rw [full_used, big_len]; simp)]
  rfl
theorem t1_faa : get t1 [102, 97, 97] = some ⟨[] ++ big, 0⟩ := by
  unfold t1
  rw [get_upd, if_pos rfl, full_faa]
  exact congrArg some rfl
theorem full_2 : append 1048576 t1 [102, 97, 97] [120] = (t1, 7) := by
  unfold Dk.append
  rw [if_pos name_faa, t1_faa]
  have hl : ([] ++ big : Tx).length = 65536 := by rw [List.nil_append, big_len]
  generalize ([] ++ big : Tx) = B at *
  dsimp only
  rw [if_pos (Or.inl (by rw [hl]; decide))]
theorem t1_used : used t1 = 65536 := by
  have h := used_upd full_sorted (k := [102, 97, 97]) (fun f => ⟨f.b ++ big, f.s⟩) full_faa
  rw [full_used] at h
  simp only [List.length_append, List.length_nil, big_len] at h
  unfold t1
  omega
theorem full_3 : append 1048576 t1 [102, 97, 98] [120] = (upd t1 [102, 97, 98] (fun f => ⟨f.b ++ [120], f.s⟩), 0) := by
  unfold Dk.append
  rw [if_pos name_fab, show get t1 [102, 97, 98] = some ⟨[], 0⟩ by unfold t1; rw [get_upd, if_neg (by decide), full_fab]]
  dsimp only
  rw [if_neg (by rw [t1_used]; simp)]
theorem cut_m1 : (cut [-1] 0 ⟨[49, 50, 51, 52, 53], 3⟩).b = [49, 50, 51, 52, 53] := by decide
theorem cut_3 : (cut [3] 0 ⟨[49, 50, 51, 52, 53], 3⟩).b = [49, 50, 51] := by decide
theorem cut_0 : (cut [0] 0 ⟨[49, 50, 51, 52, 53], 3⟩).b = [49, 50, 51] := by decide
theorem cut_2 : (cut [2] 0 ⟨[49, 50, 51, 52, 53], 3⟩).b = [49, 50, 51, 52, 53] := by decide
theorem cut_m4 : (cut [-4] 0 ⟨[49, 50, 51, 52, 53], 3⟩).b = [49, 50, 51, 52, 53] := by decide
end Go.Proofs.Dk
namespace Go.Proofs.Ytbffgpfkgmhmhaa.Dw
open Go.RowKit Go.Maps Go.Proofs.YtbffgpfkgmhmhaaW.PrintWords Go.Proofs.YtbffgpfkgmhmhaaW.PrintLast Go.Proofs.YtbffgpfkgmhmhaaW.PrintMore Go.Proofs.Dk
set_option maxRecDepth 100000
theorem repeatL_one (c : UInt8) : ∀ n, Lib.repeatL [c] n = List.replicate n c
  | 0 => rfl
  | n + 1 => by rw [Lib.repeatL, repeatL_one c n]; rfl
theorem repeat_calls (w : World) (c : UInt8) (n : Nat) (hn : n ≤ 100000) : Calls Try.prog 31 #[.string (bs [c]), .int .i64 n] w fun e w' => e = .returned (.string (bs (List.replicate n c))) ∧ Below w.heap.size w w' := by
  refine (Try.strings_Repeat (bs [c]) n w (by omega) (by rw [bs_size]; simp; omega)).mono ?_
  rintro e w' ⟨rfl, hB⟩
  rw [bs_list, repeatL_one]
  exact ⟨rfl, hB⟩
def sp : Tx := [32]
theorem join_calls (w : World) (bk cap : Nat) (xs : List Tx) (hx : ∀ (j : Nat) x, xs[j]? = some x → w.cell? ⟨bk, j, none⟩ = some (.string (bs x))) (hbk : bk < w.heap.size) (hN : xs.length ≤ 1000) (hcap : xs.length ≤ cap) (hlen : (Lib.join xs sp).length ≤ 100000) :
    Calls Try.prog 34 #[.slice (some ⟨bk, 0, none⟩) xs.length cap, .string (bs sp)] w fun e w' => e = .returned (.string (bs (Lib.join xs sp))) ∧ Below w.heap.size w w' := by
  have h1 : (xs.map bs).map (·.data.toList) = xs := by
    rw [List.map_map]
    exact (List.map_congr_left (fun x _ => bs_list x)).trans (List.map_id _)
  have h := Try.strings_Join bk 0 cap (xs.map bs) (bs sp) w (fun j x hj => by
    rw [List.getElem?_map] at hj
    obtain ⟨y, hy, rfl⟩ := Option.map_eq_some_iff.1 hj
    rw [Nat.zero_add]
    exact hx j y hy) hbk (by rw [List.length_map]; omega) (by rw [List.length_map]; exact hcap) (by rw [h1, bs_list]; omega)
  rw [h1, bs_list, List.length_map] at h
  exact h
end Go.Proofs.Ytbffgpfkgmhmhaa.Dw
/- DiskKnown's walk (function 5). Printed by ecgen.py. -/
set_option linter.unusedVariables false
set_option linter.unusedSimpArgs false
namespace Go.Proofs.Ytbffgpfkgmhmhaa.Dw
open Go.RowKit Go.Maps Go.Proofs.YtbffgpfkgmhmhaaW.PrintWords Go.Proofs.YtbffgpfkgmhmhaaW.PrintLast Go.Proofs.YtbffgpfkgmhmhaaW.PrintMore Go.Proofs.Dk
set_option maxRecDepth 100000
theorem num_row (w : World) (x : Int) : Nums (w.alloc (.cells #[.int .i64 x] 3)) (some ⟨w.heap.size, 0, none⟩) [x] := fun j hj => by
  have hj2 : j < 1 := by simpa using hj
  obtain rfl : j = 0 := by omega
  have hn := heap_alloc_new w (.cells #[.int .i64 x] 3)
  refine ⟨⟨w.heap.size, 0, none⟩, rfl, ?_⟩
  show World.cell? _ ⟨w.heap.size, 0, none⟩ = some (.int .i64 x)
  unfold World.cell?
  rw [hn]
  rfl
theorem conv_nm (w : World) (i : Nat) (h : i < 64) : (convert 66 9 (.slice (some ⟨w.heap.size, 0, none⟩) 2 2)).run Try.prog (w.alloc (.cells #[.int .u8 (97 + (i : Int) / 8), .int .u8 (97 + (i : Int) % 8)] 5)) = .ok (.string (bs [lo8 i, hi8 i])) (w.alloc (.cells #[.int .u8 (97 + (i : Int) / 8), .int .u8 (97 + (i : Int) % 8)] 5)) := by
  have hn := heap_alloc_new w (.cells #[.int .u8 (97 + (i : Int) / 8), .int .u8 (97 + (i : Int) % 8)] 5)
  refine run_convert_bytes_back (P := Try.prog) _ 66 9 5 ⟨w.heap.size, 0, none⟩ 2 [lo8 i, hi8 i] Try.underlying66 Try.underlying5 Try.underlying9 (fun j hj => ?_)
  have hj2 : j < 2 := by simpa using hj
  rcases (show j = 0 ∨ j = 1 by omega) with rfl | rfl
  · show World.cell? _ ⟨w.heap.size, 0, none⟩ = _
    unfold World.cell?
    rw [hn]
    have : ((lo8 i).toNat : Int) = 97 + (i : Int) / 8 := by unfold lo8; rw [UInt8.toNat_ofNat']; omega
    rw [List.getElem_cons_zero, this]
    rfl
  · show World.cell? _ ⟨w.heap.size, 1, none⟩ = _
    unfold World.cell?
    rw [hn]
    have : ((hi8 i).toNat : Int) = 97 + (i : Int) % 8 := by unfold hi8; rw [UInt8.toNat_ofNat']; omega
    rw [List.getElem_cons_succ, List.getElem_cons_zero, this]
    rfl
theorem rep_big : List.replicate 65536 (120 : UInt8) = big := rfl
def zD : Obj := .cells #[.int .i64 0, .map none] 69
theorem nod_none (w : World) : NoD w none := fun a h => by cases h
theorem zero_no (w : World) (o : Obj) : NoD ((w.alloc zD).alloc o) (some ⟨w.heap.size, 0, none⟩) := fun a ha => by
  cases ha
  refine ⟨_, rfl, ?_⟩
  refine cell_below (w := w.alloc zD) ?_ ((Below.refl _ _).alloc (Nat.le_refl _) o)
  have hn := heap_alloc_new w zD
  unfold World.cell?
  rw [hn]
  rfl
theorem cat_f (a : Tx) : (⟨#[102]⟩ : ByteArray) ++ bs a = bs (102 :: a) := bs_append [102] a
theorem cat_b (a : Tx) : bs a ++ (⟨#[32, 98]⟩ : ByteArray) = bs (a ++ [32, 98]) := bs_append a [32, 98]
set_option maxHeartbeats 1000000 in
theorem dknown_calls (w : World) : Calls Try.prog 5 #[] w fun e w' => e = .returned (.bool true) ∧ Below w.heap.size w w' := by
  have hb5 := bs_toList [49, 50, 51, 52, 53]
  have hb3 := bs_toList [49, 50, 51]
  go_enter Try.func5, Try.ntmps5
  go_wp2_with fail
  refine (some_calls w).mono ?_
  rintro e w1 ⟨d, mb, L, rfl, hL, hD, hB⟩
  have HL := Lib.hid (show fs L = s0 from hL)
  have HD := Lib.hid hD
  have HB := Lib.hid hB
  clear hL hD hB
  go_wp2_with fail
  refine (works_calls w1).mono ?_
  rintro e w2 ⟨rfl, hBx⟩
  have HD2 := Lib.hid (HD.out.below hBx)
  have HB2 := Lib.hid (HB.out.trans (hBx.mono HB.out.size))
  clear hBx HD HB
  have HD := Lib.hid HD2.out
  have HB := Lib.hid HB2.out
  clear HD2 HB2
  have HBx := Lib.hid (HB.out.alloc HB.out.size (.cells #[.int .i64 (-1)] 3))
  have HDx := Lib.hid (HD.out.alloc (.cells #[.int .i64 (-1)] 3))
  have HNx := Lib.hid (num_row w2 (-1))
  clear HB HD
  go_wp2_with fail
  refine (torn_calls (w2.alloc (.cells #[.int .i64 (-1)] 3)) (some ⟨w2.heap.size, 0, none⟩) 1 [(-1)] (by decide) HNx.out).mono ?_
  rintro e w3 ⟨rfl, hBx⟩
  rw [cut_m1]
  have HD := Lib.hid (HDx.out.below hBx)
  have HB := Lib.hid (HBx.out.trans (hBx.mono HBx.out.size))
  clear hBx HBx HDx HNx
  have HBx := Lib.hid (HB.out.alloc HB.out.size (.cells #[.int .i64 3] 3))
  have HDx := Lib.hid (HD.out.alloc (.cells #[.int .i64 3] 3))
  have HNx := Lib.hid (num_row w3 3)
  clear HB HD
  go_wp2_with fail
  refine (torn_calls (w3.alloc (.cells #[.int .i64 3] 3)) (some ⟨w3.heap.size, 0, none⟩) 1 [3] (by decide) HNx.out).mono ?_
  rintro e w4 ⟨rfl, hBx⟩
  rw [cut_3]
  have HD := Lib.hid (HDx.out.below hBx)
  have HB := Lib.hid (HBx.out.trans (hBx.mono HBx.out.size))
  clear hBx HBx HDx HNx
  have HBx := Lib.hid (HB.out.alloc HB.out.size (.cells #[.int .i64 0] 3))
  have HDx := Lib.hid (HD.out.alloc (.cells #[.int .i64 0] 3))
  have HNx := Lib.hid (num_row w4 0)
  clear HB HD
  go_wp2_with fail
  refine (torn_calls (w4.alloc (.cells #[.int .i64 0] 3)) (some ⟨w4.heap.size, 0, none⟩) 1 [0] (by decide) HNx.out).mono ?_
  rintro e w5 ⟨rfl, hBx⟩
  rw [cut_0]
  have HD := Lib.hid (HDx.out.below hBx)
  have HB := Lib.hid (HBx.out.trans (hBx.mono HBx.out.size))
  clear hBx HBx HDx HNx
  have HBx := Lib.hid (HB.out.alloc HB.out.size (.cells #[.int .i64 2] 3))
  have HDx := Lib.hid (HD.out.alloc (.cells #[.int .i64 2] 3))
  have HNx := Lib.hid (num_row w5 2)
  clear HB HD
  go_wp2_with fail
  refine (torn_calls (w5.alloc (.cells #[.int .i64 2] 3)) (some ⟨w5.heap.size, 0, none⟩) 1 [2] (by decide) HNx.out).mono ?_
  rintro e w6 ⟨rfl, hBx⟩
  rw [cut_2]
  have HD := Lib.hid (HDx.out.below hBx)
  have HB := Lib.hid (HBx.out.trans (hBx.mono HBx.out.size))
  clear hBx HBx HDx HNx
  have HBx := Lib.hid (HB.out.alloc HB.out.size (.cells #[.int .i64 (-4)] 3))
  have HDx := Lib.hid (HD.out.alloc (.cells #[.int .i64 (-4)] 3))
  have HNx := Lib.hid (num_row w6 (-4))
  clear HB HD
  go_wp2_with fail
  refine (torn_calls (w6.alloc (.cells #[.int .i64 (-4)] 3)) (some ⟨w6.heap.size, 0, none⟩) 1 [(-4)] (by decide) HNx.out).mono ?_
  rintro e w7 ⟨rfl, hBx⟩
  rw [cut_m4]
  have HD := Lib.hid (HDx.out.below hBx)
  have HB := Lib.hid (HBx.out.trans (hBx.mono HBx.out.size))
  clear hBx HBx HDx HNx
  go_wp2_with fail
  refine (append_calls w7 HD.out [97] [54, 55, 56, 57, 48, 49] (by decide)).mono ?_
  rintro e w8 ⟨rfl, hBx, L2, hL2, hD2⟩
  rw [HL.out, st_1] at hL2
  rw [HL.out, st_1]
  clear HL
  have HL := Lib.hid hL2
  have HD2 := Lib.hid hD2
  have HB2 := Lib.hid (HB.out.trans hBx)
  clear hBx hL2 hD2 HD HB
  have HD := Lib.hid HD2.out
  have HB := Lib.hid HB2.out
  clear HD2 HB2
  go_wp2_with fail
  refine (append_calls w8 HD.out [97] [54, 55, 56, 57, 48] (by decide)).mono ?_
  rintro e w9 ⟨rfl, hBx, L2, hL2, hD2⟩
  rw [HL.out, st_2] at hL2
  rw [HL.out, st_2]
  clear HL
  have HL := Lib.hid hL2
  have HD2 := Lib.hid hD2
  have HB2 := Lib.hid (HB.out.trans hBx)
  clear hBx hL2 hD2 HD HB
  have HD := Lib.hid HD2.out
  have HB := Lib.hid HB2.out
  clear HD2 HB2
  go_wp2_with fail
  refine (append_calls w9 HD.out [97] [120] (by decide)).mono ?_
  rintro e w10 ⟨rfl, hBx, L2, hL2, hD2⟩
  rw [HL.out, st_3] at hL2
  rw [HL.out, st_3]
  clear HL
  have HL := Lib.hid hL2
  have HD2 := Lib.hid hD2
  have HB2 := Lib.hid (HB.out.trans hBx)
  clear hBx hL2 hD2 HD HB
  have HD := Lib.hid HD2.out
  have HB := Lib.hid HB2.out
  clear HD2 HB2
  go_wp2_with fail
  refine (append_calls w10 HD.out [97] [] (by decide)).mono ?_
  rintro e w11 ⟨rfl, hBx, L2, hL2, hD2⟩
  rw [HL.out, st_4] at hL2
  rw [HL.out, st_4]
  clear HL
  have HL := Lib.hid hL2
  have HD2 := Lib.hid hD2
  have HB2 := Lib.hid (HB.out.trans hBx)
  clear hBx hL2 hD2 HD HB
  have HD := Lib.hid HD2.out
  have HB := Lib.hid HB2.out
  clear HD2 HB2
  go_wp2_with fail
  refine (create_calls w11 HD.out [65]).mono ?_
  rintro e w12 ⟨rfl, hBx, L2, hL2, hD2⟩
  rw [HL.out, st_5] at hL2
  rw [HL.out, st_5]
  clear HL
  have HL := Lib.hid hL2
  have HD2 := Lib.hid hD2
  have HB2 := Lib.hid (HB.out.trans hBx)
  clear hBx hL2 hD2 HD HB
  have HD := Lib.hid HD2.out
  have HB := Lib.hid HB2.out
  clear HD2 HB2
  go_wp2_with fail
  refine (create_calls w12 HD.out []).mono ?_
  rintro e w13 ⟨rfl, hBx, L2, hL2, hD2⟩
  rw [HL.out, st_6] at hL2
  rw [HL.out, st_6]
  clear HL
  have HL := Lib.hid hL2
  have HD2 := Lib.hid hD2
  have HB2 := Lib.hid (HB.out.trans hBx)
  clear hBx hL2 hD2 HD HB
  have HD := Lib.hid HD2.out
  have HB := Lib.hid HB2.out
  clear HD2 HB2
  go_wp2_with fail
  refine (create_calls w13 HD.out [97]).mono ?_
  rintro e w14 ⟨rfl, hBx, L2, hL2, hD2⟩
  rw [HL.out, st_7] at hL2
  rw [HL.out, st_7]
  clear HL
  have HL := Lib.hid hL2
  have HD2 := Lib.hid hD2
  have HB2 := Lib.hid (HB.out.trans hBx)
  clear hBx hL2 hD2 HD HB
  have HD := Lib.hid HD2.out
  have HB := Lib.hid HB2.out
  clear HD2 HB2
  go_wp2_with fail
  refine (repeat_calls w14 97 33 (by decide)).mono ?_
  rintro e w15 ⟨rfl, hBx⟩
  have HD2 := Lib.hid (HD.out.below hBx)
  have HB2 := Lib.hid (HB.out.trans (hBx.mono HB.out.size))
  clear hBx HD HB
  have HD := Lib.hid HD2.out
  have HB := Lib.hid HB2.out
  clear HD2 HB2
  rw [show List.replicate 33 (97 : UInt8) = a33 from rfl]
  go_wp2_with fail
  refine (create_calls w15 HD.out a33).mono ?_
  rintro e w16 ⟨rfl, hBx, L2, hL2, hD2⟩
  rw [HL.out, st_8] at hL2
  rw [HL.out, st_8]
  clear HL
  have HL := Lib.hid hL2
  have HD2 := Lib.hid hD2
  have HB2 := Lib.hid (HB.out.trans hBx)
  clear hBx hL2 hD2 HD HB
  have HD := Lib.hid HD2.out
  have HB := Lib.hid HB2.out
  clear HD2 HB2
  go_wp2_with fail
  refine (repeat_calls w16 97 32 (by decide)).mono ?_
  rintro e w17 ⟨rfl, hBx⟩
  have HD2 := Lib.hid (HD.out.below hBx)
  have HB2 := Lib.hid (HB.out.trans (hBx.mono HB.out.size))
  clear hBx HD HB
  have HD := Lib.hid HD2.out
  have HB := Lib.hid HB2.out
  clear HD2 HB2
  rw [show List.replicate 32 (97 : UInt8) = a32 from rfl]
  go_wp2_with fail
  refine (create_calls w17 HD.out a32).mono ?_
  rintro e w18 ⟨rfl, hBx, L2, hL2, hD2⟩
  rw [HL.out, st_9] at hL2
  rw [HL.out, st_9]
  clear HL
  have HL := Lib.hid hL2
  have HD2 := Lib.hid hD2
  have HB2 := Lib.hid (HB.out.trans hBx)
  clear hBx hL2 hD2 HD HB
  have HD := Lib.hid HD2.out
  have HB := Lib.hid HB2.out
  clear HD2 HB2
  go_wp2_with fail
  refine (create_calls w18 HD.out zn).mono ?_
  rintro e w19 ⟨rfl, hBx, L2, hL2, hD2⟩
  rw [HL.out, st_10] at hL2
  rw [HL.out, st_10]
  clear HL
  have HL := Lib.hid hL2
  have HD2 := Lib.hid hD2
  have HB2 := Lib.hid (HB.out.trans hBx)
  clear hBx hL2 hD2 HD HB
  have HD := Lib.hid HD2.out
  have HB := Lib.hid HB2.out
  clear HD2 HB2
  go_wp2_with fail
  refine (used_calls w19 HD.out).mono ?_
  rintro e w20 ⟨rfl, hBx⟩
  rw [HL.out, st_11]
  have HD2 := Lib.hid (HD.out.below hBx)
  have HB2 := Lib.hid (HB.out.trans (hBx.mono HB.out.size))
  clear hBx HD HB
  have HD := Lib.hid HD2.out
  have HB := Lib.hid HB2.out
  clear HD2 HB2
  go_wp2_with fail
  refine (rename_calls w20 HD.out [97] [98]).mono ?_
  rintro e w21 ⟨rfl, hBx, L2, hL2, hD2⟩
  rw [HL.out, st_12] at hL2
  rw [HL.out, st_12]
  clear HL
  have HL := Lib.hid hL2
  have HD2 := Lib.hid hD2
  have HB2 := Lib.hid (HB.out.trans hBx)
  clear hBx hL2 hD2 HD HB
  have HD := Lib.hid HD2.out
  have HB := Lib.hid HB2.out
  clear HD2 HB2
  go_wp2_with fail
  refine (rename_calls w21 HD.out [97] [99]).mono ?_
  rintro e w22 ⟨rfl, hBx, L2, hL2, hD2⟩
  rw [HL.out, st_13] at hL2
  rw [HL.out, st_13]
  clear HL
  have HL := Lib.hid hL2
  have HD2 := Lib.hid hD2
  have HB2 := Lib.hid (HB.out.trans hBx)
  clear hBx hL2 hD2 HD HB
  have HD := Lib.hid HD2.out
  have HB := Lib.hid HB2.out
  clear HD2 HB2
  go_wp2_with fail
  refine (rename_calls w22 HD.out [98] [98]).mono ?_
  rintro e w23 ⟨rfl, hBx, L2, hL2, hD2⟩
  rw [HL.out, st_14] at hL2
  rw [HL.out, st_14]
  clear HL
  have HL := Lib.hid hL2
  have HD2 := Lib.hid hD2
  have HB2 := Lib.hid (HB.out.trans hBx)
  clear hBx hL2 hD2 HD HB
  have HD := Lib.hid HD2.out
  have HB := Lib.hid HB2.out
  clear HD2 HB2
  go_wp2_with fail
  refine (rename_calls w23 HD.out [98] [66]).mono ?_
  rintro e w24 ⟨rfl, hBx, L2, hL2, hD2⟩
  rw [HL.out, st_15] at hL2
  rw [HL.out, st_15]
  clear HL
  have HL := Lib.hid hL2
  have HD2 := Lib.hid hD2
  have HB2 := Lib.hid (HB.out.trans hBx)
  clear hBx hL2 hD2 HD HB
  have HD := Lib.hid HD2.out
  have HB := Lib.hid HB2.out
  clear HD2 HB2
  go_wp2_with fail
  refine (rename_calls w24 HD.out [120] []).mono ?_
  rintro e w25 ⟨rfl, hBx, L2, hL2, hD2⟩
  rw [HL.out, st_16] at hL2
  rw [HL.out, st_16]
  clear HL
  have HL := Lib.hid hL2
  have HD2 := Lib.hid hD2
  have HB2 := Lib.hid (HB.out.trans hBx)
  clear hBx hL2 hD2 HD HB
  have HD := Lib.hid HD2.out
  have HB := Lib.hid HB2.out
  clear HD2 HB2
  go_wp2_with fail
  refine (remove_calls w25 HD.out zn).mono ?_
  rintro e w26 ⟨rfl, hBx, L2, hL2, hD2⟩
  rw [HL.out, st_17] at hL2
  rw [HL.out, st_17]
  clear HL
  have HL := Lib.hid hL2
  have HD2 := Lib.hid hD2
  have HB2 := Lib.hid (HB.out.trans hBx)
  clear hBx hL2 hD2 HD HB
  have HD := Lib.hid HD2.out
  have HB := Lib.hid HB2.out
  clear HD2 HB2
  go_wp2_with fail
  refine (remove_calls w26 HD.out zn).mono ?_
  rintro e w27 ⟨rfl, hBx, L2, hL2, hD2⟩
  rw [HL.out, st_18] at hL2
  rw [HL.out, st_18]
  clear HL
  have HL := Lib.hid hL2
  have HD2 := Lib.hid hD2
  have HB2 := Lib.hid (HB.out.trans hBx)
  clear hBx hL2 hD2 HD HB
  have HD := Lib.hid HD2.out
  have HB := Lib.hid HB2.out
  clear HD2 HB2
  go_wp2_with fail
  refine (list_calls w27 HD.out).mono ?_
  rintro e w28 ⟨v, rfl, hO, hBx⟩
  rw [HL.out] at hO
  obtain ⟨_, ⟨_, h0⟩ | ⟨g, cap, cur, rfl, _, hg, hn, _, _, ht⟩⟩ := hO
  · exact absurd h0 (by decide)
  have hj1 : Lib.join [a32, [98]] sp = a32 ++ [32, 98] := by decide +kernel
  have HJ := Lib.hid (join_calls w28 g cap [a32, [98]] (fun j x hj => by
    have hc : (cur.toList.take (2 * 1))[j]? = some (.string (bs x)) := by
      have ht2 : cur.toList.take (2 * 1) = [encS a32, encS [98]] := ht
      rw [ht2]
      rcases j with _ | _ | j
      · cases hj; rfl
      · cases hj; rfl
      · cases hj
    rw [List.getElem?_take] at hc
    split at hc
    · unfold World.cell?
      rw [hg]
      rw [Array.getElem?_toList] at hc
      exact hc
    · cases hc) (heap_lt hg) (by decide) (by simpa [s5] using hn) (by rw [hj1]; decide +kernel))
  have HD2 := Lib.hid (HD.out.below hBx)
  have HB2 := Lib.hid (HB.out.trans (hBx.mono HB.out.size))
  clear hBx HD HB hg hn ht
  have HD := Lib.hid HD2.out
  have HB := Lib.hid HB2.out
  clear HD2 HB2
  rw [show s5.length = 2 from rfl]
  rw [hj1] at HJ
  clear hj1
  have hcat := cat_b a32
  go_wp2_with fail
  refine HJ.out.mono ?_
  rintro e w29 ⟨rfl, hBx⟩
  have HD2 := Lib.hid (HD.out.below hBx)
  have HB2 := Lib.hid (HB.out.trans (hBx.mono HB.out.size))
  clear hBx HD HB HJ
  have HD := Lib.hid HD2.out
  have HB := Lib.hid HB2.out
  clear HD2 HB2
  go_wp2_with fail
  refine (repeat_calls w29 97 32 (by decide)).mono ?_
  rintro e w30 ⟨rfl, hBx⟩
  have HD2 := Lib.hid (HD.out.below hBx)
  have HB2 := Lib.hid (HB.out.trans (hBx.mono HB.out.size))
  clear hBx HD HB
  have HD := Lib.hid HD2.out
  have HB := Lib.hid HB2.out
  clear HD2 HB2
  rw [show List.replicate 32 (97 : UInt8) = a32 from rfl]
  go_wp2_with fail
  refine (synced_calls w30 HD.out [98]).mono ?_
  rintro e w31 ⟨rfl, hBx⟩
  rw [HL.out, st_19]
  have HD2 := Lib.hid (HD.out.below hBx)
  have HB2 := Lib.hid (HB.out.trans (hBx.mono HB.out.size))
  clear hBx HD HB
  have HD := Lib.hid HD2.out
  have HB := Lib.hid HB2.out
  clear HD2 HB2
  go_wp2_with fail
  refine (new_ok w31 1048576 (by decide)).mono ?_
  rintro e w32 ⟨d2, mb2, rfl, hD2, hBx⟩
  have HB2 := Lib.hid (HB.out.trans (hBx.mono HB.out.size))
  have hwB := HB.out.size
  clear HD HB HL hcat hBx
  have HD := Lib.hid hD2
  have HB := Lib.hid HB2.out
  clear HB2 hD2
  go_wp2_with fail
  obtain ⟨B, hBe⟩ : ∃ B, w31.heap.size = B := ⟨_, rfl⟩
  rw [hBe] at HD hwB
  clear hBe
  go_loopw [3] (fun t3 wr => ∃ (i : Nat) (L3 : Lf), i ≤ 64 ∧ t3 = .int .i64 i ∧ fs L3 = fulls i ∧ IsD wr B d2 mb2 1048576 L3 ∧ Below w.heap.size w wr) (fun t3 _ => 64 - (intOf t3).toNat)
  case atStart => exact ⟨0, [], by omega, rfl, rfl, HD.out, HB.out⟩
  case round =>
    obtain ⟨i, L3, hi, rfl, hL3, hD3, hB3⟩ := hrel
    clear HD HB
    have HL := Lib.hid hL3
    have HD := Lib.hid hD3
    have HB := Lib.hid hB3
    clear hL3 hD3 hB3
    by_cases hlt : i < 64
    · have hltb : decide ((i : Int) < 64) = true := decide_eq_true (by omega)
      have hk0 : 0 ≤ (i : Int) := by omega
      have hcv := conv_nm wr i hlt
      have hcf := cat_f [lo8 i, hi8 i]
      have HB1 := Lib.hid (HB.out.alloc HB.out.size (.cells #[.int .u8 (97 + (i : Int) / 8), .int .u8 (97 + (i : Int) % 8)] 5))
      have HD1 := Lib.hid (HD.out.alloc (.cells #[.int .u8 (97 + (i : Int) / 8), .int .u8 (97 + (i : Int) % 8)] 5))
      have HS := Lib.hid (show create (fs L3) [102, lo8 i, hi8 i] = (fulls (i + 1), 0) by rw [HL.out]; exact full_step i hlt)
      go_wp2_with fail
      refine (create_calls _ HD1.out [102, lo8 i, hi8 i]).mono ?_
      rintro e wl ⟨rfl, hBx, L4, hL4, hD4⟩
      rw [HS.out] at hL4
      rw [HS.out]
      have HL4 := Lib.hid hL4
      have HD4 := Lib.hid hD4
      have HB4 := Lib.hid (HB1.out.trans (hBx.mono hwB))
      clear hBx hL4 hD4 HD HB HB1 HD1 HL
      go_wp2_with fail
      go_roundw
      case rel => exact ⟨i + 1, L4, by omega, by go_num, HL4.out, HD4.out, HB4.out⟩
      case measure => simp [intOf]; omega
    · have hltb : decide ((i : Int) < 64) = false := decide_eq_false (by omega)
      obtain rfl : i = 64 := by omega
      go_wp2_with fail
      refine (create_calls wr HD.out [103]).mono ?_
      rintro e v1 ⟨rfl, hBx, L2, hL2, hD2⟩
      rw [HL.out, full_g] at hL2
      rw [HL.out, full_g]
      clear HL
      have HL := Lib.hid hL2
      have HD2 := Lib.hid hD2
      have HB2 := Lib.hid (HB.out.trans (hBx.mono hwB))
      clear hBx hL2 hD2 HD HB
      have HD := Lib.hid HD2.out
      have HB := Lib.hid HB2.out
      clear HD2 HB2
      go_wp2_with fail
      refine (repeat_calls v1 120 65536 (by decide)).mono ?_
      rintro e v2 ⟨rfl, hBx⟩
      have HD2 := Lib.hid (HD.out.below hBx)
      have HB2 := Lib.hid (HB.out.trans (hBx.mono HB.out.size))
      clear hBx HD HB
      have HD := Lib.hid HD2.out
      have HB := Lib.hid HB2.out
      clear HD2 HB2
      rw [rep_big]
      go_wp2_with fail
      refine (append_calls v2 HD.out [102, 97, 97] big (by rw [big_len]; decide)).mono ?_
      rintro e v3 ⟨rfl, hBx, L2, hL2, hD2⟩
      rw [HL.out, full_1] at hL2
      rw [HL.out, full_1]
      clear HL
      have HL := Lib.hid hL2
      have HD2 := Lib.hid hD2
      have HB2 := Lib.hid (HB.out.trans (hBx.mono hwB))
      clear hBx hL2 hD2 HD HB
      have HD := Lib.hid HD2.out
      have HB := Lib.hid HB2.out
      clear HD2 HB2
      go_wp2_with fail
      refine (append_calls v3 HD.out [102, 97, 97] [120] (by decide)).mono ?_
      rintro e v4 ⟨rfl, hBx, L2, hL2, hD2⟩
      rw [HL.out, full_2] at hL2
      rw [HL.out, full_2]
      clear HL
      have HL := Lib.hid hL2
      have HD2 := Lib.hid hD2
      have HB2 := Lib.hid (HB.out.trans (hBx.mono hwB))
      clear hBx hL2 hD2 HD HB
      have HD := Lib.hid HD2.out
      have HB := Lib.hid HB2.out
      clear HD2 HB2
      go_wp2_with fail
      refine (append_calls v4 HD.out [102, 97, 98] [120] (by decide)).mono ?_
      rintro e v5 ⟨rfl, hBx, L2, hL2, hD2⟩
      rw [HL.out, full_3] at hL2
      rw [HL.out, full_3]
      clear HL
      have HL := Lib.hid hL2
      have HD2 := Lib.hid hD2
      have HB2 := Lib.hid (HB.out.trans (hBx.mono hwB))
      clear hBx hL2 hD2 HD HB
      have HD := Lib.hid HD2.out
      have HB := Lib.hid HB2.out
      clear HD2 HB2
      have HB1 := Lib.hid ((HB.out.alloc HB.out.size zD).alloc (by simp; have := HB.out.size; omega) (.cells #[.int .i64 1] 3))
      have HN := Lib.hid (zero_no v5 (.cells #[.int .i64 1] 3))
      obtain ⟨z, hz⟩ : ∃ z, v5.heap.size = z := ⟨_, rfl⟩
      clear HD HB HL hltb
      go_wp2_with fail
      refine (crash_no ((v5.alloc zD).alloc (.cells #[.int .i64 1] 3)) (nod_none _) _ _ _).mono ?_
      rintro e v6 ⟨⟨v, rfl⟩, hBx⟩
      have HN6 := Lib.hid (HN.out.below hBx)
      have HB6 := Lib.hid (HB1.out.trans (hBx.mono HB1.out.size))
      rw [hz] at HN6
      simp only [hz]
      clear hBx HN HB1 hz
      go_wp2_with fail
      refine (read_no v6 HN6.out [97]).mono ?_
      rintro e v7 ⟨rfl, hBx⟩
      have HN7 := Lib.hid (HN6.out.below hBx)
      have HB7 := Lib.hid (HB6.out.trans (hBx.mono HB6.out.size))
      clear hBx HN6 HB6
      go_wp2_with fail
      refine (new_nil v7 0 (by decide)).mono ?_
      rintro e vx ⟨rfl, hvx⟩
      obtain rfl := hvx.symm
      go_wp2_with fail
      refine (new_nil v7 1048577 (by decide)).mono ?_
      rintro e vx ⟨rfl, hvx⟩
      obtain rfl := hvx.symm
      go_wp2_with fail
      refine (create_no v7 (nod_none _) [97]).mono ?_
      rintro e v8 ⟨rfl, hBx⟩
      have HN8 := Lib.hid (HN7.out.below hBx)
      have HB8 := Lib.hid (HB7.out.trans (hBx.mono HB7.out.size))
      clear hBx HN7 HB7
      go_wp2_with fail
      refine (create_no v8 HN8.out []).mono ?_
      rintro e v9 ⟨rfl, hBx⟩
      have HN9 := Lib.hid (HN8.out.below hBx)
      have HB9 := Lib.hid (HB8.out.trans (hBx.mono HB8.out.size))
      clear hBx HN8 HB8
      go_wp2_with fail
      refine (copy_no v9 (nod_none _)).mono ?_
      rintro e v10 ⟨rfl, hBx⟩
      have HN10 := Lib.hid (HN9.out.below hBx)
      have HB10 := Lib.hid (HB9.out.trans (hBx.mono HB9.out.size))
      clear hBx HN9 HB9
      go_wp2_with fail
      refine (copy_no v10 HN10.out).mono ?_
      rintro e v11 ⟨rfl, hBx⟩
      have HN11 := Lib.hid (HN10.out.below hBx)
      have HB11 := Lib.hid (HB10.out.trans (hBx.mono HB10.out.size))
      clear hBx HN10 HB10
      go_wp2_with fail
      refine (list_no v11 HN11.out).mono ?_
      rintro e v12 ⟨A12, c12, rfl, hBx⟩
      have HN12 := Lib.hid (HN11.out.below hBx)
      have HB12 := Lib.hid (HB11.out.trans (hBx.mono HB11.out.size))
      clear hBx HN11 HB11
      go_wp2_with fail
      refine (used_no v12 (nod_none _)).mono ?_
      rintro e v13 ⟨rfl, hBx⟩
      have HN13 := Lib.hid (HN12.out.below hBx)
      have HB13 := Lib.hid (HB12.out.trans (hBx.mono HB12.out.size))
      clear hBx HN12 HB12
      go_wp2_with fail
      refine (synced_no v13 HN13.out [97]).mono ?_
      rintro e v14 ⟨rfl, hBx⟩
      have HN14 := Lib.hid (HN13.out.below hBx)
      have HB14 := Lib.hid (HB13.out.trans (hBx.mono HB13.out.size))
      clear hBx HN13 HB13
      go_wp2_with fail
      refine (works_calls v14).mono ?_
      rintro e v15 ⟨rfl, hBx⟩
      have HN15 := Lib.hid (HN14.out.below hBx)
      have HB15 := Lib.hid (HB14.out.trans (hBx.mono HB14.out.size))
      clear hBx HN14 HB14
      go_wp2_with fail
      go_ret
      exact ⟨rfl, HB15.out⟩
end Go.Proofs.Ytbffgpfkgmhmhaa.Dw
