/- Plain laws: what is put is taken as what it was; what is taken has that text. -/
import Derived.Test.YtnhjhaphfdlkfaaDoorPT
import Derived.Test.YtnhjhaphfdlkfaaDoorHMx6
set_option linter.unusedVariables false
namespace Go.Proofs.YtnhjhaphfdlkfaaDoor.PT
open Go.RowKit Go.Proofs.YtnhjhaphfdlkfaaDoor.HM Go.Proofs.YtnhjhaphfdlkfaaDoorW.PrintWords Go.Proofs.YtnhjhaphfdlkfaaDoorW.PrintLast Go.Proofs.YtnhjhaphfdlkfaaDoorW.PrintMore
open Go.Proofs.YtnhjhaphfdlkfaaDoor.PB Go.Proofs.YtnhjhaphfdlkfaaDoor.PM

/-! ### put, then read -/
theorem enc_le_len (n : Int) (w : Nat) : (enc (Wr.leBytes n w)).length = w := by rw [enc_len, Wr.leBytes_len]
theorem g_enc (w : Nat) (n : Int) (h0 : 0 ≤ n) (h1 : n < ((256 ^ w : Nat) : Int)) (l : List UInt8) : g w (some (enc (Wr.leBytes n w) ++ l)) = (n, some l) := by
  obtain ⟨m, rfl⟩ := Int.eq_ofNat_of_zero_le h0
  have hl := enc_le_len (m : Int) w
  rw [g_yes w _ (by rw [List.length_append, hl]; omega), List.take_left' hl, List.drop_left' hl, num_le w m (by omega)]
theorem g_enc8 (n : Int) (h : 0 ≤ n ∧ n < 18446744073709551616) (l : List UInt8) : g 8 (some (enc (Wr.leBytes n 8) ++ l)) = (n, some l) := g_enc 8 n h.1 (by rw [show ((256 ^ 8 : Nat) : Int) = 18446744073709551616 from rfl]; exact h.2) l
theorem g_enc1 (n : Int) (h0 : 0 ≤ n) (h1 : n < 256) (l : List UInt8) : g 1 (some (enc (Wr.leBytes n 1) ++ l)) = (n, some l) := g_enc 1 n h0 (by rw [show ((256 ^ 1 : Nat) : Int) = 256 from rfl]; exact h1) l
theorem parts_enc (l2 : List S78) (ho : ∀ x ∈ l2, 0 ≤ x.f0 ∧ x.f0 < 18446744073709551616 ∧ 0 ≤ x.f1 ∧ x.f1 < 18446744073709551616) (L : List UInt8) : parts l2.length (some (enc (payS l2) ++ L)) = (l2, some L) := by
  induction l2 with
  | nil => rfl
  | cons x l2 ih =>
    obtain ⟨a, b, c, d⟩ := ho x List.mem_cons_self
    have e : enc (payS (x :: l2)) ++ L = enc (Wr.leBytes x.f0 8) ++ (enc (Wr.leBytes x.f1 8) ++ (enc (payS l2) ++ L)) := by
      simp [payS, enc_append]
    rw [e]
    show (⟨(g 8 _).1, (g 8 (g 8 _).2).1⟩ :: (parts l2.length (g 8 (g 8 _).2).2).1, (parts l2.length (g 8 (g 8 _).2).2).2) = _
    rw [g_enc8 _ ⟨a, b⟩]
    dsimp only
    rw [g_enc8 _ ⟨c, d⟩]
    dsimp only
    rw [ih (fun y hy => ho y (List.mem_cons_of_mem _ hy))]
theorem words_enc (l3 : List Int) (ho : ∀ x ∈ l3, 0 ≤ x ∧ x < 18446744073709551616) (L : List UInt8) : words l3.length (some (enc (payC l3) ++ L)) = (l3, some L) := by
  induction l3 with
  | nil => rfl
  | cons x l3 ih =>
    have e : enc (payC (x :: l3)) ++ L = enc (Wr.leBytes x 8) ++ (enc (payC l3) ++ L) := by simp [payC, enc_append]
    rw [e]
    show ((g 8 _).1 :: (words l3.length (g 8 _).2).1, (words l3.length (g 8 _).2).2) = _
    rw [g_enc8 _ (ho x List.mem_cons_self)]
    dsimp only
    rw [ih (fun y hy => ho y (List.mem_cons_of_mem _ hy))]
theorem tell_pay (e p : Int) (l2 : List S78) (l3 : List Int) (he : 0 ≤ e ∧ e < 18446744073709551616) (hp : 0 ≤ p ∧ p < 256) (ho : okNums l2 l3) (h2 : l2.length ≤ 13) (h3 : l3.length ≤ 3) :
    tell (enc (payN e p l2 l3)) = ⟨e, p, l2, l3, some []⟩ := by
  have E : enc (payN e p l2 l3) = enc (Wr.leBytes e 8) ++ (enc (Wr.leBytes p 1) ++ (enc (Wr.leBytes (l2.length : Int) 1) ++ (enc (payS l2) ++ (enc (Wr.leBytes (l3.length : Int) 1) ++ (enc (payC l3) ++ []))))) := by
    unfold payN
    simp [enc_append]
  have c2 : lim 13 (l2.length : Int) = l2.length := by unfold lim; omega
  have c3 : lim 3 (l3.length : Int) = l3.length := by unfold lim; omega
  unfold tell
  rw [E, g_enc8 e he]
  dsimp only
  rw [g_enc1 p hp.1 hp.2]
  dsimp only
  rw [g_enc1 (l2.length : Int) (by omega) (by omega)]
  dsimp only
  rw [c2, parts_enc l2 ho.1]
  dsimp only
  rw [g_enc1 (l3.length : Int) (by omega) (by omega)]
  dsimp only
  rw [c3, words_enc l3 ho.2]
theorem frame_list (a : List UInt8) : frameN (bs a) = bs (enc (headN (bs a)) ++ a) := by
  unfold frameN
  rw [str_bs, bs_append]
theorem next_frame (a : List UInt8) (ha : a.length ≤ 4096) : nextN (enc (headN (bs a)) ++ a) = (a, ((6 + a.length : Nat) : Int), 0) := by
  have hs : (bs a).size = a.length := bs_size a
  have h2 := updN_lt 0 (strOfNums (Wr.leBytes (a.length : Int) 2) ++ bs a) (by decide)
  have E : enc (headN (bs a)) ++ a = enc (Wr.leBytes (a.length : Int) 2) ++ (enc (Wr.leBytes ((updN 0 (strOfNums (Wr.leBytes (a.length : Int) 2) ++ bs a) : Nat) : Int) 4) ++ a) := by
    unfold headN
    rw [hs, enc_append, List.append_assoc]
  have l2 := enc_le_len (a.length : Int) 2
  have l4 := enc_le_len ((updN 0 (strOfNums (Wr.leBytes (a.length : Int) 2) ++ bs a) : Nat) : Int) 4
  have t2 : (enc (headN (bs a)) ++ a).take 2 = enc (Wr.leBytes (a.length : Int) 2) := by rw [E, List.take_left' l2]
  have d2 : (enc (headN (bs a)) ++ a).drop 2 = enc (Wr.leBytes ((updN 0 (strOfNums (Wr.leBytes (a.length : Int) 2) ++ bs a) : Nat) : Int) 4) ++ a := by rw [E, List.drop_left' l2]
  have d6 : (enc (headN (bs a)) ++ a).drop 6 = a := by
    rw [show 6 = 2 + 4 from rfl, ← List.drop_drop, d2, List.drop_left' l4]
  have len : (enc (headN (bs a)) ++ a).length = 6 + a.length := by rw [E, List.length_append, List.length_append, l2, l4]; omega
  have n2 : numN (enc (Wr.leBytes (a.length : Int) 2)) = a.length := num_le 2 a.length (by omega)
  have n4 : numN (enc (Wr.leBytes ((updN 0 (strOfNums (Wr.leBytes (a.length : Int) 2) ++ bs a) : Nat) : Int) 4)) = updN 0 (strOfNums (Wr.leBytes (a.length : Int) 2) ++ bs a) := num_le 4 _ (by omega)
  unfold nextN sumOf
  rw [len, t2, d2, d6, n2, List.take_left' l4, n4, List.take_length, updN_append, ← str_bs]
  rw [if_neg (by omega), if_neg (by omega), if_neg (by omega), if_neg (by simp)]
theorem take_put (e p : Int) (l2 : List S78) (l3 : List Int) (he : 0 ≤ e ∧ e < 18446744073709551616) (hp : 0 ≤ p ∧ p < 256) (ho : okNums l2 l3) (h : okB e p l2 l3 = true) :
    takeN (enc (headN (bs (enc (payN e p l2 l3)))) ++ enc (payN e p l2 l3)) = (e, p, l2, l3, 0) := by
  have h' := h
  unfold okB at h'
  simp only [Bool.and_eq_true, decide_eq_true_eq] at h'
  obtain ⟨_, _, _, q2, q3, _⟩ := h'
  have hl : (enc (payN e p l2 l3)).length ≤ 4096 := by rw [enc_len, payN_len]; omega
  unfold takeN
  rw [next_frame _ hl, if_pos rfl]
  dsimp only
  rw [tell_pay e p l2 l3 he hp ho (by omega) (by omega)]
  have len : (enc (headN (bs (enc (payN e p l2 l3)))) ++ enc (payN e p l2 l3)).length = 6 + (enc (payN e p l2 l3)).length := by
    rw [List.length_append, enc_len (headN _)]
    unfold headN
    rw [List.length_append, Wr.leBytes_len, Wr.leBytes_len]
  rw [if_pos ⟨by rw [len], rfl, h⟩]

/-! ### read, then put -/
theorem g_inv (w : Nat) (r : Option (List UInt8)) (L : List UInt8) (h : (g w r).2 = some L) : ∃ l, r = some l ∧ l = enc (Wr.leBytes (g w r).1 w) ++ L ∧ 0 ≤ (g w r).1 ∧ (g w r).1 < ((256 ^ w : Nat) : Int) := by
  cases r with
  | none => simp [g] at h
  | some l =>
    by_cases hw : w ≤ l.length
    · rw [g_yes w l hw] at h ⊢
      simp only [Option.some.injEq] at h
      have hl : (l.take w).length = w := by rw [List.length_take]; omega
      have hb := numN_lt (l.take w)
      have he := le_num (l.take w)
      rw [hl] at hb he
      refine ⟨l, rfl, ?_, by omega, by dsimp only; omega⟩
      dsimp only
      rw [he, ← h, List.take_append_drop]
    · rw [g_no w l hw] at h
      simp at h
theorem g_inv8 (r : Option (List UInt8)) (L : List UInt8) (h : (g 8 r).2 = some L) : ∃ l, r = some l ∧ l = enc (Wr.leBytes (g 8 r).1 8) ++ L ∧ 0 ≤ (g 8 r).1 ∧ (g 8 r).1 < 18446744073709551616 := by
  have := g_inv 8 r L h
  rwa [show ((256 ^ 8 : Nat) : Int) = 18446744073709551616 from rfl] at this
theorem g_inv1 (r : Option (List UInt8)) (L : List UInt8) (h : (g 1 r).2 = some L) : ∃ l, r = some l ∧ l = enc (Wr.leBytes (g 1 r).1 1) ++ L ∧ 0 ≤ (g 1 r).1 ∧ (g 1 r).1 < 256 := by
  have := g_inv 1 r L h
  rwa [show ((256 ^ 1 : Nat) : Int) = 256 from rfl] at this
theorem parts_inv (n : Nat) : ∀ (r : Option (List UInt8)) (L : List UInt8), (parts n r).2 = some L → ∃ l, r = some l ∧ l = enc (payS (parts n r).1) ++ L ∧ ∀ x ∈ (parts n r).1, 0 ≤ x.f0 ∧ x.f0 < 18446744073709551616 ∧ 0 ≤ x.f1 ∧ x.f1 < 18446744073709551616 := by
  induction n with
  | zero => exact fun r L h => ⟨L, h, by simp [parts, payS, enc], fun x hx => by simp [parts] at hx⟩
  | succ n ih =>
    intro r L h
    simp only [parts] at h ⊢
    obtain ⟨l1, e1, f1, b1⟩ := ih _ L h
    obtain ⟨l2, e2, f2, a2, b2⟩ := g_inv8 _ l1 e1
    obtain ⟨l3, e3, f3, a3, b3⟩ := g_inv8 _ l2 e2
    refine ⟨l3, e3, ?_, ?_⟩
    · rw [f3, f2, f1]
      simp [payS, enc_append]
    · intro x hx
      rcases List.mem_cons.1 hx with rfl | hx
      · exact ⟨a3, b3, a2, b2⟩
      · exact b1 x hx
theorem words_inv (n : Nat) : ∀ (r : Option (List UInt8)) (L : List UInt8), (words n r).2 = some L → ∃ l, r = some l ∧ l = enc (payC (words n r).1) ++ L ∧ ∀ x ∈ (words n r).1, 0 ≤ x ∧ x < 18446744073709551616 := by
  induction n with
  | zero => exact fun r L h => ⟨L, h, by simp [words, payC, enc], fun x hx => by simp [words] at hx⟩
  | succ n ih =>
    intro r L h
    simp only [words] at h ⊢
    obtain ⟨l1, e1, f1, b1⟩ := ih _ L h
    obtain ⟨l2, e2, f2, a2, b2⟩ := g_inv8 _ l1 e1
    refine ⟨l2, e2, ?_, ?_⟩
    · rw [f2, f1]
      simp [payC, enc_append]
    · intro x hx
      rcases List.mem_cons.1 hx with rfl | hx
      · exact ⟨a2, b2⟩
      · exact b1 x hx
theorem lim_small (m : Nat) (n : Int) (h : lim m n < m) (h0 : 0 ≤ n) : ((lim m n : Nat) : Int) = n := by unfold lim at h ⊢; omega
theorem tell_inv (p : List UInt8) (h : (tell p).left = some []) (h2 : (tell p).l2.length ≤ 12) (h3 : (tell p).l3.length ≤ 2) :
    p = enc (payN (tell p).e (tell p).pl (tell p).l2 (tell p).l3) ∧ (0 ≤ (tell p).e ∧ (tell p).e < 18446744073709551616) ∧ (0 ≤ (tell p).pl ∧ (tell p).pl < 256) ∧ okNums (tell p).l2 (tell p).l3 := by
  unfold tell at h h2 h3 ⊢
  dsimp only at h h2 h3 ⊢
  obtain ⟨l5, e5, f5, b5⟩ := words_inv _ _ _ h
  obtain ⟨l4, e4, f4, a4, b4⟩ := g_inv1 _ l5 e5
  obtain ⟨l3', e3, f3, b3⟩ := parts_inv _ _ l4 e4
  obtain ⟨l2', e2, f2, a2, b2⟩ := g_inv1 _ l3' e3
  obtain ⟨l1, e1, f1, a1, b1⟩ := g_inv1 _ l2' e2
  obtain ⟨l0, e0, f0, a0, b0⟩ := g_inv8 _ l1 e1
  cases e0
  refine ⟨?_, ⟨a0, b0⟩, ⟨a1, b1⟩, b3, b5⟩
  rw [parts_len] at h2
  rw [words_len] at h3
  have c2 : (((parts (lim 13 (g 1 (g 1 (g 8 (some p)).2).2).1) (g 1 (g 1 (g 8 (some p)).2).2).2).1.length : Nat) : Int) = (g 1 (g 1 (g 8 (some p)).2).2).1 := by
    rw [parts_len]; exact lim_small 13 _ (by omega) a2
  have c3 : (((words (lim 3 (g 1 (parts (lim 13 (g 1 (g 1 (g 8 (some p)).2).2).1) (g 1 (g 1 (g 8 (some p)).2).2).2).2).1) (g 1 (parts (lim 13 (g 1 (g 1 (g 8 (some p)).2).2).1) (g 1 (g 1 (g 8 (some p)).2).2).2).2).2).1.length : Nat) : Int) = (g 1 (parts (lim 13 (g 1 (g 1 (g 8 (some p)).2).2).1) (g 1 (g 1 (g 8 (some p)).2).2).2).2).1 := by
    rw [words_len]; exact lim_small 3 _ (by omega) a4
  unfold payN
  rw [c2, c3, enc_append, enc_append, enc_append, enc_append, enc_append]
  conv => lhs; rw [f0, f1, f2, f3, f4, f5]
  simp
theorem next_inv (l : List UInt8) (h0 : (nextN l).2.2 = 0) (h1 : (nextN l).2.1 = (l.length : Int)) : (nextN l).1.length ≤ 4096 ∧ bs l = frameN (bs (nextN l).1) := by
  unfold nextN at h0 h1 ⊢
  by_cases c0 : l.length < 6
  · rw [if_pos c0] at h0; simp at h0
  · rw [if_neg c0] at h0 h1 ⊢
    by_cases c1 : 4096 < numN (l.take 2)
    · rw [if_pos c1] at h0; simp at h0
    · rw [if_neg c1] at h0 h1 ⊢
      by_cases c2 : (l.drop 6).length < numN (l.take 2)
      · rw [if_pos c2] at h0; simp at h0
      · rw [if_neg c2] at h0 h1 ⊢
        by_cases c3 : sumOf l (numN (l.take 2)) ≠ numN ((l.drop 2).take 4)
        · rw [if_pos c3] at h0; simp at h0
        · rw [if_neg c3] at h0 h1 ⊢
          have c4 := Decidable.not_not.1 c3
          dsimp only at h1 ⊢
          have hn : numN (l.take 2) = (l.drop 6).length := by rw [List.length_drop]; omega
          rw [hn] at c4 ⊢
          rw [List.take_length]
          refine ⟨by omega, ?_⟩
          unfold sumOf at c4
          rw [List.take_length, updN_append] at c4
          have hl2 : (l.take 2).length = 2 := by rw [List.length_take]; omega
          have hl4 : ((l.drop 2).take 4).length = 4 := by rw [List.length_take, List.length_drop]; omega
          have e2 := le_num (l.take 2)
          have e4 := le_num ((l.drop 2).take 4)
          rw [hl2, hn] at e2
          rw [hl4, ← c4] at e4
          rw [frame_list]
          unfold headN
          rw [bs_size, enc_append, str_bs, e2, e4, List.append_assoc]
          have d : (l.drop 2).take 4 ++ l.drop 6 = l.drop 2 := by
            have := List.take_append_drop 4 (l.drop 2)
            rwa [List.drop_drop] at this
          rw [d, List.take_append_drop]

/-! ### the same -/
theorem same1 (e p e' p' : Int) (l2 : List S78) (l3 : List Int) (h3 : l3.length ≤ 100) (d : Nat) : ∀ (k i : Nat), i + d = l3.length → d < k → hindcastlaw17_same.l1 k (i : Int) e p l2 l3 e' p' l2 l3 = some true := by
  induction d with
  | zero =>
    intro k i hd hk
    obtain ⟨k, rfl⟩ : ∃ m, k = m + 1 := ⟨k - 1, by omega⟩
    simp only [hindcastlaw17_same.l1]
    rw [if_neg (by omega)]
  | succ d ih =>
    intro k i hd hk
    obtain ⟨k, rfl⟩ : ∃ m, k = m + 1 := ⟨k - 1, by omega⟩
    have hw : wrap64 ((i : Int) + 1) = ((i + 1 : Nat) : Int) := by unfold wrap64; omega
    simp only [hindcastlaw17_same.l1]
    rw [if_pos (by omega), if_pos (by omega), if_pos (by omega), if_pos trivial, hw]
    exact ih k (i + 1) (by omega) (by omega)
theorem same0 (e p e' p' : Int) (l2 : List S78) (l3 : List Int) (h2 : l2.length ≤ 100) (h3 : l3.length ≤ 100) (d : Nat) : ∀ (k i : Nat), i + d = l2.length → d + 200 < k → hindcastlaw17_same.l0 k (i : Int) e p l2 l3 e' p' l2 l3 = some true := by
  induction d with
  | zero =>
    intro k i hd hk
    obtain ⟨k, rfl⟩ : ∃ m, k = m + 1 := ⟨k - 1, by omega⟩
    simp only [hindcastlaw17_same.l0]
    rw [if_neg (by omega)]
    exact same1 e p e' p' l2 l3 h3 l3.length k 0 (by omega) (by omega)
  | succ d ih =>
    intro k i hd hk
    obtain ⟨k, rfl⟩ : ∃ m, k = m + 1 := ⟨k - 1, by omega⟩
    have hw : wrap64 ((i : Int) + 1) = ((i + 1 : Nat) : Int) := by unfold wrap64; omega
    simp only [hindcastlaw17_same.l0]
    rw [if_pos (by omega), if_pos (by omega), if_pos (by omega), if_neg (by simp), hw]
    exact ih k (i + 1) (by omega) (by omega)
theorem same_f (e p : Int) (l2 : List S78) (l3 : List Int) (h2 : l2.length ≤ 100) (h3 : l3.length ≤ 100) (k : Nat) (hk : 1000 < k) : hindcastlaw17_same.f k e p l2 l3 e p l2 l3 = some true := by
  obtain ⟨k, rfl⟩ : ∃ m, k = m + 1 := ⟨k - 1, by omega⟩
  unfold hindcastlaw17_same.f
  have hz : ((l3.length : Int) != (l3.length : Int)) = false := by simp
  rw [if_pos rfl, if_pos rfl, if_pos rfl, hz]
  simp only [hindcastlaw17_same.j0]
  rw [if_neg (by decide)]
  exact same0 e p e p l2 l3 h2 h3 l2.length k 0 (by omega) (by omega)
end Go.Proofs.YtnhjhaphfdlkfaaDoor.PT
