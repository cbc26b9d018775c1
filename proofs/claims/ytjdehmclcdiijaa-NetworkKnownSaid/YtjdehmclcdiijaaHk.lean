/- NetworkKnown: the walk. -/
import Derived.Test.YtjdehmclcdiijaaHn
set_option linter.unusedVariables false
namespace Go.Proofs.Ytjdehmclcdiijaa.Hp
open Go.RowKit Go.Proofs.YtjdehmclcdiijaaW.PrintWords Go.Proofs.YtjdehmclcdiijaaW.PrintLast Go.Proofs.YtjdehmclcdiijaaW.PrintMore

def kn0 : AN := afresh 2
theorem ks0 : ASmall kn0 0 := afresh_small (by omega) (by omega)
def kn1 : AN := (asendS kn0 0 (⟨#[97]⟩ : ByteArray) 1 1).1
theorem ks1 : ASmall kn1 4 := asmall_mono (asendS_small ks0 _ _ _ _).1 (by omega)
theorem kv1 : (asendS kn0 0 (⟨#[97]⟩ : ByteArray) 1 1).2 = 1 := rfl
def kn2 : AN := (asendS kn1 0 (⟨#[98]⟩ : ByteArray) 1 0).1
theorem ks2 : ASmall kn2 8 := asmall_mono (asendS_small ks1 _ _ _ _).1 (by omega)
theorem kv2 : (asendS kn1 0 (⟨#[98]⟩ : ByteArray) 1 0).2 = 1 := rfl
def kn3 : AN := (asendS kn2 0 (⟨#[99]⟩ : ByteArray) 1 0).1
theorem ks3 : ASmall kn3 12 := asmall_mono (asendS_small ks2 _ _ _ _).1 (by omega)
theorem kv3 : (asendS kn2 0 (⟨#[99]⟩ : ByteArray) 1 0).2 = 0 := rfl
def kn4 : AN := arecv kn3 0
theorem ks4 : ASmall kn4 16 := asmall_mono (arecv_small ks3 _) (by omega)
theorem kr4 : aready kn3 0 = true := rfl
theorem kv4 : atop kn3 0 = (⟨#[98]⟩ : ByteArray) := rfl
theorem kq1 : aready kn4 0 = false := rfl
def kn5 : AN := kn4.tick
theorem ks5 : ASmall kn5 20 := asmall_mono (atick_small ks4) (by omega)
def kn6 : AN := arecv kn5 0
theorem ks6 : ASmall kn6 24 := asmall_mono (arecv_small ks5 _) (by omega)
theorem kr6 : aready kn5 0 = true := rfl
theorem kv6 : atop kn5 0 = (⟨#[97]⟩ : ByteArray) := rfl
theorem kq2 : aready kn6 0 = false := rfl
theorem ku3 : kn6.sent = 3 := rfl
theorem ku4 : kn6.lost = 1 := rfl
theorem ku5 : kn6.told = 2 := rfl
def kn7 : AN := (asendS kn6 1 (⟨#[120]⟩ : ByteArray) 2 0).1
theorem ks7 : ASmall kn7 28 := asmall_mono (asendS_small ks6 _ _ _ _).1 (by omega)
theorem kv7 : (asendS kn6 1 (⟨#[120]⟩ : ByteArray) 2 0).2 = 2 := rfl
def kn8 : AN := arecv kn7 1
theorem ks8 : ASmall kn8 32 := asmall_mono (arecv_small ks7 _) (by omega)
theorem kr8 : aready kn7 1 = true := rfl
theorem kv8 : atop kn7 1 = (⟨#[120]⟩ : ByteArray) := rfl
theorem kq6 : aready kn8 1 = false := rfl
def kn9 : AN := kn8.tick
theorem ks9 : ASmall kn9 36 := asmall_mono (atick_small ks8) (by omega)
def kn10 : AN := arecv kn9 1
theorem ks10 : ASmall kn10 40 := asmall_mono (arecv_small ks9 _) (by omega)
theorem kr10 : aready kn9 1 = true := rfl
theorem kv10 : atop kn9 1 = (⟨#[120]⟩ : ByteArray) := rfl
def kn11 : AN := (asendS kn10 1 (⟨#[121]⟩ : ByteArray) 4 0).1
theorem ks11 : ASmall kn11 44 := asmall_mono (asendS_small ks10 _ _ _ _).1 (by omega)
theorem kv11 : (asendS kn10 1 (⟨#[121]⟩ : ByteArray) 4 0).2 = 0 := rfl
theorem ku7 : kn11.lost = 2 := rfl
theorem mk56 (m : Nat) (hm : m ≤ 100000) : ∀ W : World, (Instr.makeSlice 56 (.int .i64 (m : Int)) (.int .i64 (m : Int))).run Try.prog W = .ok (.slice (some ⟨W.heap.size, 0, none⟩) m m) (W.alloc (.cells (madeCells #[.int .u8 0] m) 5)) :=
  print_make 56 5 .u8 1 Try.underlying56 (by kernel_rfl) (by omega) m (by omega)
theorem cv56 (W : World) (m : Nat) (hm : m ≤ 100000) : (convert 56 9 (.slice (some ⟨W.heap.size, 0, none⟩) m m)).run Try.prog (W.alloc (.cells (madeCells #[.int .u8 0] m) 5)) = .ok (.string (strOfNums (List.replicate m 0))) (W.alloc (.cells (madeCells #[.int .u8 0] m) 5)) :=
  own_string Try.underlying56 Try.underlying5 Try.underlying9 (own_made W W.heap.size 5 .u8 m (Nat.le_refl _) (by omega))
theorem szOf (m : Nat) : (strOfNums (List.replicate m 0)).size = m := by unfold strOfNums ByteArray.size; simp
def knL (s : ByteArray) : AN := (asendS kn11 0 s 1 8).1
theorem knLs (s : ByteArray) : ASmall (knL s) 100 := asmall_mono (asendS_small ks11 _ _ _ _).1 (by omega)
theorem knLv (s : ByteArray) : (asendS kn11 0 s 1 8).2 = 1 := rfl
theorem knLr (s : ByteArray) : aready (knL s) 0 = true := rfl
theorem knLt (s : ByteArray) : atop (knL s) 0 = s := rfl
theorem knLn (s : ByteArray) : (arecv (knL s) 0).now = 2 := rfl
/-- A network, and beside it one of which New knows nothing. -/
structure KI (w : World) (base g z : Nat) (a : AN) (F : Nat → Prop) : Prop where
  n : IsA w base g a F
  z : w.cell? ⟨z, 0, none⟩ = some (.int .i64 0)
theorem ki_kept {w w' : World} {base g z : Nat} {a : AN} {F : Nat → Prop} (h : KI w base g z a F) (k : Kept w w' (fun _ => False)) : KI w' base g z a F :=
  ⟨isa_kept h.n k (fun _ _ hf => hf), cell_kept h.z k (fun hf => hf)⟩
theorem zero_is {w : World} {z : Nat} (h : w.cell? ⟨z, 0, none⟩ = some (.int .i64 0)) : Calls Try.prog 24 #[.pointer (some ⟨z, 0, none⟩)] w fun e w' => e = .returned (.bool false) ∧ w = w' :=
  (is_calls w z 0 h).mono fun e w' k => ⟨by rw [k.1, decide_eq_false (by omega)], k.2⟩
theorem zero_send (w : World) (z : Nat) (way : Int) (bytes : ByteArray) (c d : Int) (h : w.cell? ⟨z, 0, none⟩ = some (.int .i64 0)) :
    Calls Try.prog 10 #[.pointer (some ⟨z, 0, none⟩), .int .i64 way, .string bytes, .agg #[.int .u8 c, .int .u8 d]] w fun e w' => e = .returned (.tuple #[.int .i64 0, .int .i64 1]) ∧ ∃ o, w' = w.alloc o := by
  have hlt := World.block_lt_of_cell? w _ h
  have HI := Lib.hid (fun o => zero_is (w := w.alloc o) (z := z) ((World.cell?_alloc_past o z 0 hlt).trans h))
  clear h
  go_enter Try.func10, Try.ntmps10
  go_wp2_with fail
  refine (HI.out _).mono ?_
  rintro e w2 ⟨rfl, rfl⟩
  go_wp2
  go_ret2
  exact ⟨rfl, _, rfl⟩

set_option maxHeartbeats 4000000 in
set_option maxRecDepth 100000 in
theorem known_calls (W : World) : Calls Try.prog 6 #[] W fun e w' => e = .returned (.bool true) ∧ Below W.heap.size W w' := by
  have HN := Lib.hid (a_new W W.heap.size (Nat.le_refl _) 2 (by omega) (by omega))
  go_enter Try.func6, Try.ntmps6
  go_wp2_with fail
  refine (HN.out).mono ?_
  rintro e w1 ⟨rfl, hA, _, hB1⟩
  have HB := Lib.hid hB1
  clear hB1 HN
  go_wp2_with fail
  refine (works_calls w1).mono ?_
  rintro e w2 ⟨rfl, hB⟩
  replace hA := isa_kept hA (Kept.of_below hB (fun _ => False)) (fun _ _ hf => hf)
  have HB2 := Lib.hid (HB.out.trans (hB.mono HB.out.size))
  clear HB hB
  have HB := HB2
  clear HB2
  have H := l_sent w2 W.heap.size W.heap.size kn0 _ hA 0 ks0 (by omega) HB.out.size 0 (by omega) (⟨#[97]⟩ : ByteArray) (by decide) 1 1 (by omega) (by omega) (by omega) (by omega)
  rw [kv1] at H
  have G := Lib.hid H
  clear H hA
  go_wp2_with fail
  refine (G.out).mono ?_
  rintro e w3 ⟨rfl, F3, hA, _, _, hB⟩
  have HB2 := Lib.hid (HB.out.trans hB)
  clear G HB hB
  have HB := HB2
  clear HB2
  have H := l_sent w3 W.heap.size W.heap.size kn1 _ hA 4 ks1 (by omega) HB.out.size 0 (by omega) (⟨#[98]⟩ : ByteArray) (by decide) 1 0 (by omega) (by omega) (by omega) (by omega)
  rw [kv2] at H
  have G := Lib.hid H
  clear H hA
  go_wp2_with fail
  refine (G.out).mono ?_
  rintro e w4 ⟨rfl, F4, hA, _, _, hB⟩
  have HB2 := Lib.hid (HB.out.trans hB)
  clear G HB hB
  have HB := HB2
  clear HB2
  have H := l_sent w4 W.heap.size W.heap.size kn2 _ hA 8 ks2 (by omega) HB.out.size 0 (by omega) (⟨#[99]⟩ : ByteArray) (by decide) 1 0 (by omega) (by omega) (by omega) (by omega)
  rw [kv3] at H
  have G := Lib.hid H
  clear H hA
  go_wp2_with fail
  refine (G.out).mono ?_
  rintro e w5 ⟨rfl, F5, hA, _, _, hB⟩
  have HB2 := Lib.hid (HB.out.trans hB)
  clear G HB hB
  have HB := HB2
  clear HB2
  have H := l_got w5 W.heap.size W.heap.size kn3 _ hA 12 ks3 (by omega) 0 (by omega) kr4
  rw [kv4] at H
  have G := Lib.hid H
  clear H hA
  go_wp2_with fail
  refine (G.out).mono ?_
  rintro e w6 ⟨rfl, F6, hA, _, _, hB⟩
  have HB2 := Lib.hid (HB.out.trans hB)
  clear G HB hB
  have HB := HB2
  clear HB2
  have H := l_got_not w6 W.heap.size W.heap.size kn4 _ hA ks4.most0 0 (by omega) kq1
  unfold dash at H
  have G := Lib.hid H
  clear H
  go_wp2_with fail
  refine (G.out).mono ?_
  rintro e w7 ⟨rfl, m7, hw⟩
  have hA2 := isa_drewN hA m7
  rw [← hw] at hA2
  clear hA
  have hA := hA2
  clear hA2
  have HB2 := Lib.hid (show Below W.heap.size W w7 by rw [hw]; exact pw_below_drewN HB.out m7)
  clear G HB hw
  have HB := HB2
  clear HB2
  have G := Lib.hid (a_tick w7 W.heap.size W.heap.size kn4 _ hA 16 ks4 (by omega))
  clear hA
  go_wp2_with fail
  refine (G.out).mono ?_
  rintro e w8 ⟨rfl, F8, hA, _, _, hB⟩
  have HB2 := Lib.hid (HB.out.trans hB)
  clear G HB hB
  have HB := HB2
  clear HB2
  have H := l_got w8 W.heap.size W.heap.size kn5 _ hA 20 ks5 (by omega) 0 (by omega) kr6
  rw [kv6] at H
  have G := Lib.hid H
  clear H hA
  go_wp2_with fail
  refine (G.out).mono ?_
  rintro e w9 ⟨rfl, F9, hA, _, _, hB⟩
  have HB2 := Lib.hid (HB.out.trans hB)
  clear G HB hB
  have HB := HB2
  clear HB2
  have H := l_got_not w9 W.heap.size W.heap.size kn6 _ hA ks6.most0 0 (by omega) kq2
  unfold dash at H
  have G := Lib.hid H
  clear H
  go_wp2_with fail
  refine (G.out).mono ?_
  rintro e w10 ⟨rfl, m10, hw⟩
  have hA2 := isa_drewN hA m10
  rw [← hw] at hA2
  clear hA
  have hA := hA2
  clear hA2
  have HB2 := Lib.hid (show Below W.heap.size W w10 by rw [hw]; exact pw_below_drewN HB.out m10)
  clear G HB hw
  have HB := HB2
  clear HB2
  have H := a_sent w10 W.heap.size W.heap.size kn6 _ hA ks6.most0
  rw [ku3] at H
  have G := Lib.hid H
  clear H
  go_wp2_with fail
  refine (G.out).mono ?_
  rintro e w11 ⟨rfl, rfl⟩
  clear G
  have H := a_lost w10 W.heap.size W.heap.size kn6 _ hA ks6.most0
  rw [ku4] at H
  have G := Lib.hid H
  clear H
  go_wp2_with fail
  refine (G.out).mono ?_
  rintro e w11 ⟨rfl, rfl⟩
  clear G
  have H := a_told w10 W.heap.size W.heap.size kn6 _ hA ks6.most0
  rw [ku5] at H
  have G := Lib.hid H
  clear H
  go_wp2_with fail
  refine (G.out).mono ?_
  rintro e w11 ⟨rfl, rfl⟩
  clear G
  have H := l_sent w10 W.heap.size W.heap.size kn6 _ hA 24 ks6 (by omega) HB.out.size 1 (by omega) (⟨#[120]⟩ : ByteArray) (by decide) 2 0 (by omega) (by omega) (by omega) (by omega)
  rw [kv7] at H
  have G := Lib.hid H
  clear H hA
  go_wp2_with fail
  refine (G.out).mono ?_
  rintro e w11 ⟨rfl, F11, hA, _, _, hB⟩
  have HB2 := Lib.hid (HB.out.trans hB)
  clear G HB hB
  have HB := HB2
  clear HB2
  have H := l_got w11 W.heap.size W.heap.size kn7 _ hA 28 ks7 (by omega) 1 (by omega) kr8
  rw [kv8] at H
  have G := Lib.hid H
  clear H hA
  go_wp2_with fail
  refine (G.out).mono ?_
  rintro e w12 ⟨rfl, F12, hA, _, _, hB⟩
  have HB2 := Lib.hid (HB.out.trans hB)
  clear G HB hB
  have HB := HB2
  clear HB2
  have H := l_got_not w12 W.heap.size W.heap.size kn8 _ hA ks8.most0 1 (by omega) kq6
  unfold dash at H
  have G := Lib.hid H
  clear H
  go_wp2_with fail
  refine (G.out).mono ?_
  rintro e w13 ⟨rfl, m13, hw⟩
  have hA2 := isa_drewN hA m13
  rw [← hw] at hA2
  clear hA
  have hA := hA2
  clear hA2
  have HB2 := Lib.hid (show Below W.heap.size W w13 by rw [hw]; exact pw_below_drewN HB.out m13)
  clear G HB hw
  have HB := HB2
  clear HB2
  have G := Lib.hid (a_tick w13 W.heap.size W.heap.size kn8 _ hA 32 ks8 (by omega))
  clear hA
  go_wp2_with fail
  refine (G.out).mono ?_
  rintro e w14 ⟨rfl, F14, hA, _, _, hB⟩
  have HB2 := Lib.hid (HB.out.trans hB)
  clear G HB hB
  have HB := HB2
  clear HB2
  have H := l_got w14 W.heap.size W.heap.size kn9 _ hA 36 ks9 (by omega) 1 (by omega) kr10
  rw [kv10] at H
  have G := Lib.hid H
  clear H hA
  go_wp2_with fail
  refine (G.out).mono ?_
  rintro e w15 ⟨rfl, F15, hA, _, _, hB⟩
  have HB2 := Lib.hid (HB.out.trans hB)
  clear G HB hB
  have HB := HB2
  clear HB2
  have H := l_sent w15 W.heap.size W.heap.size kn10 _ hA 40 ks10 (by omega) HB.out.size 1 (by omega) (⟨#[121]⟩ : ByteArray) (by decide) 4 0 (by omega) (by omega) (by omega) (by omega)
  rw [kv11] at H
  have G := Lib.hid H
  clear H hA
  go_wp2_with fail
  refine (G.out).mono ?_
  rintro e w16 ⟨rfl, F16, hA, _, _, hB⟩
  have HB2 := Lib.hid (HB.out.trans hB)
  clear G HB hB
  have HB := HB2
  clear HB2
  have H := a_lost w16 W.heap.size W.heap.size kn11 _ hA ks11.most0
  rw [ku7] at H
  have G := Lib.hid H
  clear H
  go_wp2_with fail
  refine (G.out).mono ?_
  rintro e w17 ⟨rfl, rfl⟩
  clear G
  obtain ⟨s16, ha16, hn16⟩ := id hA
  have G := Lib.hid (sent_of w16 _ 2 (⟨#[121]⟩ : ByteArray) 1 0 0 2 _ (by omega) (by omega) (send_noway w16 W.heap.size W.heap.size s16 _ hn16 (by rw [ha16.most]; exact ks11.most0) 2 (by omega) (⟨#[121]⟩ : ByteArray) 1 0))
  clear ha16 hn16
  go_wp2_with fail
  refine (G.out).mono ?_
  rintro e w17 ⟨rfl, o17, hw⟩
  have hA2 := isa_kept hA ((Kept.refl _ (fun _ => False)).alloc o17) (fun _ _ hf => hf)
  rw [← hw] at hA2
  clear hA
  have hA := hA2
  clear hA2
  have HB2 := Lib.hid (show Below W.heap.size W w17 by rw [hw]; exact HB.out.alloc HB.out.size _)
  clear G HB hw
  have HB := HB2
  clear HB2
  obtain ⟨s17, ha17, hn17⟩ := id hA
  have G := Lib.hid (sent_of w17 _ (-1) (⟨#[121]⟩ : ByteArray) 1 0 0 2 _ (by omega) (by omega) (send_noway w17 W.heap.size W.heap.size s17 _ hn17 (by rw [ha17.most]; exact ks11.most0) (-1) (by omega) (⟨#[121]⟩ : ByteArray) 1 0))
  clear ha17 hn17
  go_wp2_with fail
  refine (G.out).mono ?_
  rintro e w18 ⟨rfl, o18, hw⟩
  have hA2 := isa_kept hA ((Kept.refl _ (fun _ => False)).alloc o18) (fun _ _ hf => hf)
  rw [← hw] at hA2
  clear hA
  have hA := hA2
  clear hA2
  have HB2 := Lib.hid (show Below W.heap.size W w18 by rw [hw]; exact HB.out.alloc HB.out.size _)
  clear G HB hw
  have HB := HB2
  clear HB2
  -- the long one
  have hmk : ∀ W : World, (Instr.makeSlice 56 (.int .i64 4103) (.int .i64 4103)).run Try.prog W = .ok (.slice (some ⟨W.heap.size, 0, none⟩) 4103 4103) (W.alloc (.cells (madeCells #[.int .u8 0] 4103) 5)) := mk56 4103 (by omega)
  have hcv := cv56 w18 4103 (by omega)
  have hsz := szOf 4103
  generalize strOfNums (List.replicate 4103 0) = s3 at *
  generalize madeCells #[Value.int .u8 0] 4103 = cc at *
  have hA2 := isa_kept hA ((Kept.refl w18 (fun _ => False)).alloc (.cells cc 5)) (fun _ _ hf => hf)
  have HB2 := Lib.hid (HB.out.alloc HB.out.size (.cells cc 5))
  obtain ⟨s, ha, hn⟩ := id hA2
  have G := Lib.hid (sent_of (w18.alloc (.cells cc 5)) (some ⟨W.heap.size, 0, none⟩) 0 s3 1 0 0 3 _ (by omega) (by omega) (send_long _ W.heap.size W.heap.size s _ hn (by rw [ha.most]; exact ks11.most0) 0 ⟨by omega, by omega⟩ s3 (by omega) 1 0))
  clear ha hn hA HB
  go_wp2_with fail
  refine (G.out).mono ?_
  rintro e v1 ⟨rfl, o1, hw⟩
  have hA := isa_kept hA2 ((Kept.refl _ (fun _ => False)).alloc o1) (fun _ _ hf => hf)
  have HB := Lib.hid (HB2.out.alloc HB2.out.size o1)
  rw [← hw] at hA HB
  clear hw hA2 HB2 G hmk hcv hsz
  -- the longest one
  have hmk : ∀ W : World, (Instr.makeSlice 56 (.int .i64 4102) (.int .i64 4102)).run Try.prog W = .ok (.slice (some ⟨W.heap.size, 0, none⟩) 4102 4102) (W.alloc (.cells (madeCells #[.int .u8 0] 4102) 5)) := mk56 4102 (by omega)
  have hcv := cv56 v1 4102 (by omega)
  have hsz := szOf 4102
  generalize strOfNums (List.replicate 4102 0) = s2 at *
  generalize madeCells #[Value.int .u8 0] 4102 = c2 at *
  have hA2 := isa_kept hA ((Kept.refl v1 (fun _ => False)).alloc (.cells c2 5)) (fun _ _ hf => hf)
  have HB2 := Lib.hid (HB.out.alloc HB.out.size (.cells c2 5))
  have H := l_sent (v1.alloc (.cells c2 5)) W.heap.size W.heap.size kn11 _ hA2 90 (asmall_mono ks11 (by omega)) (by omega) HB2.out.size 0 (by omega) s2 (by omega) 1 8 (by omega) (by omega) (by omega) (by omega)
  rw [knLv] at H
  have G := Lib.hid H
  clear H hA HB
  go_wp2_with fail
  refine (G.out).mono ?_
  rintro e v2 ⟨rfl, F9, hA, _, _, hB⟩
  have HB := Lib.hid (HB2.out.trans hB)
  clear G HB2 hB hA2 hmk hcv
  have H := l_got v2 W.heap.size W.heap.size (knL s2) _ hA 100 (knLs s2) (by omega) 0 (by omega) (knLr s2)
  rw [knLt] at H
  have G := Lib.hid H
  clear H hA
  go_wp2_with fail
  refine (G.out).mono ?_
  rintro e v3 ⟨rfl, F10, hA, _, _, hB⟩
  have HB2 := Lib.hid (HB.out.trans hB)
  clear G HB hB
  have HB := HB2
  clear HB2
  have hsm : ASmall (arecv (knL s2) 0) 101 := arecv_small (knLs s2) 0
  have hnow := knLn s2
  generalize arecv (knL s2) 0 = kE at *
  have G := Lib.hid (got_of v3 (some ⟨W.heap.size, 0, none⟩) 5 .empty false _ (fun _ => by decide) (recv_none v3 (some ⟨W.heap.size, 0, none⟩) 5 (fun n => by
    obtain ⟨s, ha, vs, hv⟩ := id hA
    exact (may_calls (v3.drewN n) W.heap.size s.most 5 (isv_cell hv 0)).mono fun e w' k => ⟨by rw [k.1]; unfold mayB; rw [decide_eq_false (p := (5 : Int) < 2) (by omega), Bool.and_false], k.2⟩)))
  rw [if_neg Bool.false_ne_true, show dash ++ ByteArray.empty = (⟨#[45]⟩ : ByteArray) from rfl] at G
  go_wp2_with fail
  refine (G.out).mono ?_
  rintro e v4 ⟨rfl, m4, hw⟩
  have hA2 := isa_drewN hA m4
  have HB2 := Lib.hid (pw_below_drewN HB.out m4)
  rw [← hw] at hA2 HB2
  clear G hA HB hw
  have hz0 := (World.cell?_alloc_at (w := v4) #[Value.int .i64 0, .int .u64 0, .int .i64 0, .slice none 0 0, .slice none 0 0, .int .i64 0, .int .i64 0, .int .i64 0] 66 v4.heap.size 0 rfl)
  have KI1 : KI (v4.alloc (.cells #[Value.int .i64 0, .int .u64 0, .int .i64 0, .slice none 0 0, .slice none 0 0, .int .i64 0, .int .i64 0, .int .i64 0] 66)) W.heap.size W.heap.size v4.heap.size kE _ := ⟨isa_kept hA2 ((Kept.refl _ (fun _ => False)).alloc _) (fun _ _ hf => hf), hz0⟩
  have HB := Lib.hid (HB2.out.alloc HB2.out.size (.cells #[Value.int .i64 0, .int .u64 0, .int .i64 0, .slice none 0 0, .slice none 0 0, .int .i64 0, .int .i64 0, .int .i64 0] 66))
  clear hA2 HB2 hz0
  go_wp2_with fail
  generalize v4.alloc (.cells #[Value.int .i64 0, .int .u64 0, .int .i64 0, .slice none 0 0, .slice none 0 0, .int .i64 0, .int .i64 0, .int .i64 0] 66) = v5 at *
  have G := Lib.hid (tick_none v5 none (is_nil v5))
  refine (G.out).mono ?_
  rintro e u ⟨rfl, rfl⟩
  clear G
  have G := Lib.hid (tick_none v5 (some ⟨v4.heap.size, 0, none⟩) (zero_is KI1.z))
  go_wp2_with fail
  refine (G.out).mono ?_
  rintro e u ⟨rfl, rfl⟩
  clear G
  have G := Lib.hid (new_none v5 0 (Or.inl (by omega)))
  go_wp2_with fail
  refine (G.out).mono ?_
  rintro e u ⟨rfl, rfl⟩
  clear G
  have G := Lib.hid (new_none v5 65 (Or.inr (by omega)))
  go_wp2_with fail
  refine (G.out).mono ?_
  rintro e u ⟨rfl, rfl⟩
  clear G
  have G := Lib.hid (new_calls v5 W.heap.size HB.out.size 64 (by omega) (by omega))
  go_wp2_with fail
  refine (G.out).mono ?_
  rintro e v6 ⟨rfl, _, hk, hb⟩
  have KI2 := ki_kept KI1 hk
  have HB2 := Lib.hid (HB.out.trans hb)
  clear G KI1 HB hk hb
  have KI1 := KI2
  have HB := HB2
  clear KI2 HB2
  have G := Lib.hid (sent_of v6 none 0 (⟨#[]⟩ : ByteArray) 1 0 0 1 _ (by omega) (by omega) (send_none v6 none 0 (⟨#[]⟩ : ByteArray) 1 0 (fun w => is_nil w)))
  go_wp2_with fail
  refine (G.out).mono ?_
  rintro e v7 ⟨rfl, o, hw⟩
  have KI2 := ki_kept KI1 ((Kept.refl _ (fun _ => False)).alloc o)
  have HB2 := Lib.hid (HB.out.alloc HB.out.size o)
  rw [← hw] at KI2 HB2
  clear G hw KI1 HB
  have KI1 := KI2
  have HB := HB2
  clear KI2 HB2
  have G := Lib.hid (sent_of v7 (some ⟨v4.heap.size, 0, none⟩) 9 (⟨#[]⟩ : ByteArray) 1 0 0 1 _ (by omega) (by omega) (zero_send v7 v4.heap.size 9 (⟨#[]⟩ : ByteArray) 1 0 KI1.z))
  go_wp2_with fail
  refine (G.out).mono ?_
  rintro e v8 ⟨rfl, o, hw⟩
  have KI2 := ki_kept KI1 ((Kept.refl _ (fun _ => False)).alloc o)
  have HB2 := Lib.hid (HB.out.alloc HB.out.size o)
  rw [← hw] at KI2 HB2
  clear G hw KI1 HB
  have KI1 := KI2
  have HB := HB2
  clear KI2 HB2
  have G := Lib.hid (got_of v8 none 0 .empty false _ (fun _ => by decide) (recv_none v8 none 0 (fun n => may_nil (v8.drewN n) 0)))
  rw [if_neg Bool.false_ne_true, show dash ++ ByteArray.empty = (⟨#[45]⟩ : ByteArray) from rfl] at G
  go_wp2_with fail
  refine (G.out).mono ?_
  rintro e v9 ⟨rfl, m, hw⟩
  have KI2 := ki_kept KI1 ((Kept.refl _ (fun _ => False)).drewN m)
  have HB2 := Lib.hid (pw_below_drewN HB.out m)
  rw [← hw] at KI2 HB2
  clear G hw KI1 HB
  have KI1 := KI2
  have HB := HB2
  clear KI2 HB2
  have G := Lib.hid (now_none v9 (some ⟨v4.heap.size, 0, none⟩) (zero_is KI1.z))
  go_wp2_with fail
  refine (G.out).mono ?_
  rintro e u ⟨rfl, rfl⟩
  clear G
  have G := Lib.hid (waiting_none v9 none 0 (may_nil v9 0))
  go_wp2_with fail
  refine (G.out).mono ?_
  rintro e u ⟨rfl, rfl⟩
  clear G
  have G := Lib.hid (sent_none v9 (some ⟨v4.heap.size, 0, none⟩) (zero_is KI1.z))
  go_wp2_with fail
  refine (G.out).mono ?_
  rintro e u ⟨rfl, rfl⟩
  clear G
  have H := a_now v9 W.heap.size W.heap.size kE _ KI1.n hsm.most0
  rw [hnow] at H
  have G := Lib.hid H
  clear H
  go_wp2_with fail
  refine (G.out).mono ?_
  rintro e u ⟨rfl, rfl⟩
  clear G
  go_wp2_with fail
  refine (works_calls v9).mono ?_
  rintro e v10 ⟨rfl, hB⟩
  go_wp2
  go_ret
  exact ⟨rfl, HB.out.trans (hB.mono HB.out.size)⟩

end Go.Proofs.Ytjdehmclcdiijaa.Hp
