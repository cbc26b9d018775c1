/- Plain laws: what is put is taken as what it was; what is taken has that text. -/
import Derived.Test.YtnhjhaphfdlkfaaDoorQPT
import Derived.Test.YtnhjhaphfdlkfaaDoorQHMx6
set_option linter.unusedVariables false
namespace Go.Proofs.YtnhjhaphfdlkfaaDoor.PT
open Go.RowKit Go.Proofs.YtnhjhaphfdlkfaaDoor.HM Go.Proofs.YtnhjhaphfdlkfaaDoorW.PrintWords Go.Proofs.YtnhjhaphfdlkfaaDoorW.PrintLast Go.Proofs.YtnhjhaphfdlkfaaDoorW.PrintMore
open Go.Proofs.YtnhjhaphfdlkfaaDoor.PB Go.Proofs.YtnhjhaphfdlkfaaDoor.PM
/-! ### put, then read -/
theorem enc_le_len (n : Int) (w : Nat) : (enc (Wr.leBytes n w)).length = w := by rw [enc_len, Wr.leBytes_len]
theorem g_enc (w : Nat) (n : Int) (h0 : 0 ≤ n) (h1 : n < ((256 ^ w : Nat) : Int)) (l : List UInt8) : g w (some (enc (Wr.leBytes n w) ++ l)) = (n, some l) := by
  obtain ⟨m, rfl⟩ := Int.eq_ofNat_of_zero_le h0
  have hl := enc_le_len (m : Int) w
  rw [g_yes w _ (by rw [List.length_append, hl]; omega), List.take_left' hl, List.drop_left' hl, num_le w m (by omega)]
theorem g_enc8 (n : Int) (h : 0 ≤ n ∧ n < 18446744073709551616) (l : List UInt8) : g 8 (some (enc (Wr.leBytes n 8) ++ l)) = (n, some l) := g_enc 8 n h.1 (by rw [show ((256 ^ 8 : Nat) : Int) = 18446744073709551616 from rfl]; exact h.2) l
theorem g_enc1 (n : Int) (h0 : 0 ≤ n) (h1 : n < 256) (l : List UInt8) : g 1 (some (enc (Wr.leBytes n 1) ++ l)) = (n, some l) := g_enc 1 n h0 (by rw [show ((256 ^ 1 : Nat) : Int) = 256 from rfl]; exact h1) l
theorem parts_enc (l2 : List S78) (ho : ∀ x ∈ l2, 0 ≤ x.f0 ∧ x.f0 < 18446744073709551616 ∧ 0 ≤ x.f1 ∧ x.f1 < 18446744073709551616) (L : List UInt8) : parts l2.length (some (enc (payS l2) ++ L)) = (l2, some L) := by
  induction l2 with
  | nil => rfl
  | cons x l2 ih =>
    obtain ⟨a, b, c, d⟩ := ho x List.mem_cons_self
    have e : enc (payS (x :: l2)) ++ L = enc (Wr.leBytes x.f0 8) ++ (enc (Wr.leBytes x.f1 8) ++ (enc (payS l2) ++ L)) := by
      simp [payS, enc_append]
    rw [e]
    show (⟨(g 8 _).1, (g 8 (g 8 _).2).1⟩ :: (parts l2.length (g 8 (g 8 _).2).2).1, (parts l2.length (g 8 (g 8 _).2).2).2) = _
    rw [g_enc8 _ ⟨a, b⟩]
    dsimp only
    rw [g_enc8 _ ⟨c, d⟩]
    dsimp only
    rw [ih (fun y hy => ho y (List.mem_cons_of_mem _ hy))]
theorem words_enc (l3 : List Int) (ho : ∀ x ∈ l3, 0 ≤ x ∧ x < 18446744073709551616) (L : List UInt8) : words l3.length (some (enc (payC l3) ++ L)) = (l3, some L) := by
  induction l3 with
  | nil => rfl
  | cons x l3 ih =>
    have e : enc (payC (x :: l3)) ++ L = enc (Wr.leBytes x 8) ++ (enc (payC l3) ++ L) := by simp [payC, enc_append]
    rw [e]
    show ((g 8 _).1 :: (words l3.length (g 8 _).2).1, (words l3.length (g 8 _).2).2) = _
    rw [g_enc8 _ (ho x List.mem_cons_self)]
    dsimp only
    rw [ih (fun y hy => ho y (List.mem_cons_of_mem _ hy))]
theorem tell_pay (e p : Int) (l2 : List S78) (l3 : List Int) (he : 0 ≤ e ∧ e < 18446744073709551616) (hp : 0 ≤ p ∧ p < 256) (ho : okNums l2 l3) (h2 : l2.length ≤ 13) (h3 : l3.length ≤ 3) :
    tell (enc (payN e p l2 l3)) = ⟨e, p, l2, l3, some []⟩ := by
  have E : enc (payN e p l2 l3) = enc (Wr.leBytes e 8) ++ (enc (Wr.leBytes p 1) ++ (enc (Wr.leBytes (l2.length : Int) 1) ++ (enc (payS l2) ++ (enc (Wr.leBytes (l3.length : Int) 1) ++ (enc (payC l3) ++ []))))) := by
    unfold payN
    simp [enc_append]
  have c2 : lim 13 (l2.length : Int) = l2.length := by unfold lim; omega
  have c3 : lim 3 (l3.length : Int) = l3.length := by unfold lim; omega
  unfold tell
  rw [E, g_enc8 e he]
  dsimp only
  rw [g_enc1 p hp.1 hp.2]
  dsimp only
  rw [g_enc1 (l2.length : Int) (by omega) (by omega)]
  dsimp only
  rw [c2, parts_enc l2 ho.1]
  dsimp only
  rw [g_enc1 (l3.length : Int) (by omega) (by omega)]
  dsimp only
  rw [c3, words_enc l3 ho.2]
theorem frame_list (a : List UInt8) : frameN (bs a) = bs (enc (headN (bs a)) ++ a) := by
  unfold frameN
  rw [str_bs, bs_append]
/-! ### read, then put -/
theorem g_inv (w : Nat) (r : Option (List UInt8)) (L : List UInt8) (h : (g w r).2 = some L) : ∃ l, r = some l ∧ l = enc (Wr.leBytes (g w r).1 w) ++ L ∧ 0 ≤ (g w r).1 ∧ (g w r).1 < ((256 ^ w : Nat) : Int) := by
  cases r with
  | none => simp [g] at h
  | some l =>
    by_cases hw : w ≤ l.length
    · rw [g_yes w l hw] at h ⊢
      simp only [Option.some.injEq] at h
      have hl : (l.take w).length = w := by rw [List.length_take]; omega
      have hb := numN_lt (l.take w)
      have he := le_num (l.take w)
      rw [hl] at hb he
      refine ⟨l, rfl, ?_, by omega, by dsimp only; omega⟩
      dsimp only
      rw [he, ← h, List.take_append_drop]
    · rw [g_no w l hw] at h
      simp at h
theorem g_inv8 (r : Option (List UInt8)) (L : List UInt8) (h : (g 8 r).2 = some L) : ∃ l, r = some l ∧ l = enc (Wr.leBytes (g 8 r).1 8) ++ L ∧ 0 ≤ (g 8 r).1 ∧ (g 8 r).1 < 18446744073709551616 := by
  have := g_inv 8 r L h
  rwa [show ((256 ^ 8 : Nat) : Int) = 18446744073709551616 from rfl] at this
theorem g_inv1 (r : Option (List UInt8)) (L : List UInt8) (h : (g 1 r).2 = some L) : ∃ l, r = some l ∧ l = enc (Wr.leBytes (g 1 r).1 1) ++ L ∧ 0 ≤ (g 1 r).1 ∧ (g 1 r).1 < 256 := by
  have := g_inv 1 r L h
  rwa [show ((256 ^ 1 : Nat) : Int) = 256 from rfl] at this
theorem parts_inv (n : Nat) : ∀ (r : Option (List UInt8)) (L : List UInt8), (parts n r).2 = some L → ∃ l, r = some l ∧ l = enc (payS (parts n r).1) ++ L ∧ ∀ x ∈ (parts n r).1, 0 ≤ x.f0 ∧ x.f0 < 18446744073709551616 ∧ 0 ≤ x.f1 ∧ x.f1 < 18446744073709551616 := by
  induction n with
  | zero => exact fun r L h => ⟨L, h, by simp [parts, payS, enc], fun x hx => by simp [parts] at hx⟩
  | succ n ih =>
    intro r L h
    simp only [parts] at h ⊢
    obtain ⟨l1, e1, f1, b1⟩ := ih _ L h
    obtain ⟨l2, e2, f2, a2, b2⟩ := g_inv8 _ l1 e1
    obtain ⟨l3, e3, f3, a3, b3⟩ := g_inv8 _ l2 e2
    refine ⟨l3, e3, ?_, ?_⟩
    · rw [f3, f2, f1]
      simp [payS, enc_append]
    · intro x hx
      rcases List.mem_cons.1 hx with rfl | hx
      · exact ⟨a3, b3, a2, b2⟩
      · exact b1 x hx
theorem words_inv (n : Nat) : ∀ (r : Option (List UInt8)) (L : List UInt8), (words n r).2 = some L → ∃ l, r = some l ∧ l = enc (payC (words n r).1) ++ L ∧ ∀ x ∈ (words n r).1, 0 ≤ x ∧ x < 18446744073709551616 := by
  induction n with
  | zero => exact fun r L h => ⟨L, h, by simp [words, payC, enc], fun x hx => by simp [words] at hx⟩
  | succ n ih =>
    intro r L h
    simp only [words] at h ⊢
    obtain ⟨l1, e1, f1, b1⟩ := ih _ L h
    obtain ⟨l2, e2, f2, a2, b2⟩ := g_inv8 _ l1 e1
    refine ⟨l2, e2, ?_, ?_⟩
    · rw [f2, f1]
      simp [payC, enc_append]
    · intro x hx
      rcases List.mem_cons.1 hx with rfl | hx
      · exact ⟨a2, b2⟩
      · exact b1 x hx
theorem lim_small (m : Nat) (n : Int) (h : lim m n < m) (h0 : 0 ≤ n) : ((lim m n : Nat) : Int) = n := by unfold lim at h ⊢; omega
theorem tell_inv (p : List UInt8) (h : (tell p).left = some []) (h2 : (tell p).l2.length ≤ 12) (h3 : (tell p).l3.length ≤ 2) :
    p = enc (payN (tell p).e (tell p).pl (tell p).l2 (tell p).l3) ∧ (0 ≤ (tell p).e ∧ (tell p).e < 18446744073709551616) ∧ (0 ≤ (tell p).pl ∧ (tell p).pl < 256) ∧ okNums (tell p).l2 (tell p).l3 := by
  unfold tell at h h2 h3 ⊢
  dsimp only at h h2 h3 ⊢
  obtain ⟨l5, e5, f5, b5⟩ := words_inv _ _ _ h
  obtain ⟨l4, e4, f4, a4, b4⟩ := g_inv1 _ l5 e5
  obtain ⟨l3', e3, f3, b3⟩ := parts_inv _ _ l4 e4
  obtain ⟨l2', e2, f2, a2, b2⟩ := g_inv1 _ l3' e3
  obtain ⟨l1, e1, f1, a1, b1⟩ := g_inv1 _ l2' e2
  obtain ⟨l0, e0, f0, a0, b0⟩ := g_inv8 _ l1 e1
  cases e0
  refine ⟨?_, ⟨a0, b0⟩, ⟨a1, b1⟩, b3, b5⟩
  rw [parts_len] at h2
  rw [words_len] at h3
  have c2 : (((parts (lim 13 (g 1 (g 1 (g 8 (some p)).2).2).1) (g 1 (g 1 (g 8 (some p)).2).2).2).1.length : Nat) : Int) = (g 1 (g 1 (g 8 (some p)).2).2).1 := by
    rw [parts_len]; exact lim_small 13 _ (by omega) a2
  have c3 : (((words (lim 3 (g 1 (parts (lim 13 (g 1 (g 1 (g 8 (some p)).2).2).1) (g 1 (g 1 (g 8 (some p)).2).2).2).2).1) (g 1 (parts (lim 13 (g 1 (g 1 (g 8 (some p)).2).2).1) (g 1 (g 1 (g 8 (some p)).2).2).2).2).2).1.length : Nat) : Int) = (g 1 (parts (lim 13 (g 1 (g 1 (g 8 (some p)).2).2).1) (g 1 (g 1 (g 8 (some p)).2).2).2).2).1 := by
    rw [words_len]; exact lim_small 3 _ (by omega) a4
  unfold payN
  rw [c2, c3, enc_append, enc_append, enc_append, enc_append, enc_append]
  conv => lhs; rw [f0, f1, f2, f3, f4, f5]
  simp
end Go.Proofs.YtnhjhaphfdlkfaaDoor.PT
