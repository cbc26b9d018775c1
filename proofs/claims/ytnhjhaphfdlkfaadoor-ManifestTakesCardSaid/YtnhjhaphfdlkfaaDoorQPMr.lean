/- Plain laws on the document's manifest. -/
import Derived.Test.YtnhjhaphfdlkfaaDoorQPM
import Derived.Test.YtnhjhaphfdlkfaaDoorQPBr
import Derived.Test.YtnhjhaphfdlkfaaDoorQHMx10
import Derived.Test.YtnhjhaphfdlkfaaDoorQHMx11
set_option linter.unusedVariables false
namespace Go.Proofs.YtnhjhaphfdlkfaaDoor.PM
open Go.RowKit Go.Proofs.YtnhjhaphfdlkfaaDoor.HM Go.Proofs.YtnhjhaphfdlkfaaDoorW.PrintWords Go.Proofs.YtnhjhaphfdlkfaaDoorW.PrintLast Go.Proofs.YtnhjhaphfdlkfaaDoorW.PrintMore
open Go.Proofs.YtnhjhaphfdlkfaaDoor.PB
/-! ### the document's -/
def cv (x : S78) : S84 := ⟨x.f0, x.f1⟩
theorem rd_cv (l : List S78) (i : Nat) (h : i < l.length) : rd_T84 (l.map cv) (i : Int) = cv (rd_T78 l (i : Int)) := by
  unfold rd_T84 rd_T78
  rw [Int.toNat_natCast, List.getD_eq_getElem?_getD, List.getD_eq_getElem?_getD, List.getElem?_map, List.getElem?_eq_getElem h]
  rfl
theorem may_loop (e p : Int) (l2 : List S78) (l3 : List Int) (hl : l2.length ≤ 12) (h3 : l3.length ≤ 2) (d : Nat) : ∀ (k i : Nat), i + 1 + d = l2.length → d < k →
    hindcastref17_May.l0 k ((i + 1 : Nat) : Int) e p (l2.map cv) l3 = some (rises (rd_T78 l2 i).f0 (rd_T78 l2 i).f1 (l2.drop (i + 1)) && tailB l3) := by
  induction d with
  | zero =>
    intro k i hd hk
    obtain ⟨k, rfl⟩ : ∃ m, k = m + 1 := ⟨k - 1, by omega⟩
    simp only [hindcastref17_May.l0, List.length_map]
    rw [if_neg (by omega), List.drop_eq_nil_of_le (by omega)]
    unfold rises tailB
    by_cases h : l3.length = 2
    · rw [if_neg (by omega), if_pos (by omega), if_pos (by omega), if_pos h]; simp
    · rw [if_pos (by omega), if_neg h]; simp
  | succ d ih =>
    intro k i hd hk
    obtain ⟨k, rfl⟩ : ∃ m, k = m + 1 := ⟨k - 1, by omega⟩
    have hw : wrap64 (((i + 1 : Nat) : Int) + 1) = ((i + 1 + 1 : Nat) : Int) := by unfold wrap64; omega
    have hm : wrap64 (((i + 1 : Nat) : Int) - 1) = (i : Int) := by unfold wrap64; omega
    have hn := ih k (i + 1) (by omega) (by omega)
    simp only [hindcastref17_May.l0, List.length_map]
    rw [if_pos (by omega), if_pos (by omega), hm, if_pos (by omega), if_pos (by omega), hw, rd_cv l2 (i + 1) (by omega), rd_cv l2 i (by omega), drop78 l2 (i + 1) (by omega), hn]
    by_cases c1 : (rd_T78 l2 ((i + 1 : Nat) : Int)).f0 ≤ (rd_T78 l2 i).f0
    · rw [if_pos (by exact c1)]
      have : decide ((rd_T78 l2 i).f0 < (rd_T78 l2 ((i + 1 : Nat) : Int)).f0) = false := decide_eq_false (by omega)
      simp only [rises, this, Bool.false_and]
    · rw [if_neg (by exact c1)]
      have e1 : decide ((rd_T78 l2 i).f0 < (rd_T78 l2 ((i + 1 : Nat) : Int)).f0) = true := decide_eq_true (by omega)
      by_cases c2 : (rd_T78 l2 ((i + 1 : Nat) : Int)).f1 < (rd_T78 l2 i).f1
      · rw [if_pos (by exact c2)]
        have : decide ((rd_T78 l2 i).f1 ≤ (rd_T78 l2 ((i + 1 : Nat) : Int)).f1) = false := decide_eq_false (by omega)
        simp only [rises, this, Bool.false_and, Bool.and_false]
      · rw [if_neg (by exact c2)]
        have e2 : decide ((rd_T78 l2 i).f1 ≤ (rd_T78 l2 ((i + 1 : Nat) : Int)).f1) = true := decide_eq_true (by omega)
        simp only [rises, e1, e2, Bool.true_and]
theorem may_f (e p : Int) (l2 : List S78) (l3 : List Int) (hn : ∀ x ∈ l2, 0 ≤ x.f0 ∧ 0 ≤ x.f1) (k : Nat) (hk : 100 < k) : hindcastref17_May.f k e p (l2.map cv) l3 = some (okB e p l2 l3) := by
  obtain ⟨k, rfl⟩ : ∃ m, k = m + 1 := ⟨k - 1, by omega⟩
  unfold hindcastref17_May.f okB
  have j1 : hindcastref17_May.j0 (k + 1) true e p (l2.map cv) l3 = some false := by simp only [hindcastref17_May.j0, if_true]
  rw [List.length_map]
  by_cases a1 : e = 0
  · rw [if_pos a1, j1]; simp [a1]
  · rw [if_neg a1]
    have b1 : decide (e ≠ 0) = true := by simp [a1]
    by_cases a2 : p > 1
    · rw [if_pos a2, j1]
      have : decide (p ≤ 1) = false := decide_eq_false (by omega)
      rw [this]; simp
    · rw [if_neg a2]
      have b2 : decide (p ≤ 1) = true := decide_eq_true (by omega)
      by_cases a3 : (l2.length : Int) = 0
      · rw [if_pos a3, j1]
        have : decide (1 ≤ l2.length) = false := decide_eq_false (by omega)
        rw [this]; simp
      · rw [if_neg a3]
        have b3 : decide (1 ≤ l2.length) = true := decide_eq_true (by omega)
        by_cases a4 : (l2.length : Int) > 12
        · rw [if_pos a4, j1]
          have : decide (l2.length ≤ 12) = false := decide_eq_false (by omega)
          rw [this]; simp
        · rw [if_neg a4]
          have b4 : decide (l2.length ≤ 12) = true := decide_eq_true (by omega)
          by_cases a5 : (l3.length : Int) > 2
          · rw [if_pos a5, j1]
            have : decide (l3.length ≤ 2) = false := decide_eq_false (by omega)
            rw [this]; simp
          · rw [if_neg a5, if_pos (by omega)]
            have b5 : decide (l3.length ≤ 2) = true := decide_eq_true (by omega)
            rw [b1, b2, b3, b4, b5]
            simp only [Bool.true_and]
            have r0 := rd_cv l2 0 (by omega)
            rw [show ((0 : Nat) : Int) = 0 from rfl] at r0
            have d0 := drop78 l2 0 (by omega)
            rw [List.drop_zero, show ((0 : Nat) : Int) = 0 from rfl] at d0
            have hm : rd_T78 l2 0 ∈ l2 := by rw [d0]; exact List.mem_cons_self
            obtain ⟨g0, g1⟩ := hn _ hm
            rw [r0]
            have hx : rises 0 0 l2 = (decide (0 < (rd_T78 l2 0).f0) && rises (rd_T78 l2 0).f0 (rd_T78 l2 0).f1 (l2.drop (0 + 1))) := by
              have e2 : decide (0 ≤ (rd_T78 l2 0).f1) = true := decide_eq_true (by omega)
              conv => lhs; rw [d0]
              simp only [rises, e2, Bool.true_and]
            by_cases a6 : (rd_T78 l2 0).f0 = 0
            · have : ((cv (rd_T78 l2 0)).f0 == 0) = true := by simp [cv, a6]
              rw [this, j1, hx, a6]; simp
            · have : ((cv (rd_T78 l2 0)).f0 == 0) = false := by simp [cv, a6]
              rw [this]
              simp only [hindcastref17_May.j0]
              rw [if_neg (by decide)]
              have hl := may_loop e p l2 l3 (by omega) (by omega) (l2.length - 1) k 0 (by omega) (by omega)
              rw [show ((0 + 1 : Nat) : Int) = 1 from rfl, show ((0 : Nat) : Int) = 0 from rfl] at hl
              rw [hl, hx]
              have e3 : decide (0 < (rd_T78 l2 0).f0) = true := decide_eq_true (by omega)
              rw [e3, Bool.true_and]
/-! ### its payload -/
theorem long_step (k : Nat) (n : Int) (b : List Int) (i : Nat) (h0 : 0 ≤ n) (h1 : n < 18446744073709551616) (hi : i < 8) (hb : b.length = 8) :
    hindcastref17_Long.l0 (k + 1) n b i = hindcastref17_Long.l0 k (n / 256) (b.set i (n % 256)) ((i + 1 : Nat) : Int) := by
  simp only [hindcastref17_Long.l0]
  rw [if_pos (by omega), if_pos (by omega), if_pos (by omega)]
  rw [Int.tdiv_eq_ediv_of_nonneg h0, Int.tmod_eq_emod_of_nonneg h0]
  have e1 : IntKind.u64.wrap (n / 256) = n / 256 := IntWalk.u64_in _ ⟨by omega, by omega⟩
  have e2 : wrap64 ((i : Int) + 1) = ((i + 1 : Nat) : Int) := by unfold wrap64; omega
  have e3 : n % 256 % 256 = n % 256 := by omega
  rw [e1, e2, e3, Int.toNat_natCast]
theorem long_f (n : Int) (h0 : 0 ≤ n) (h1 : n < 18446744073709551616) (k : Nat) (hk : 8 < k) : hindcastref17_Long.f k n = some (strOfNums (Wr.leBytes n 8)) := by
  obtain ⟨k, rfl⟩ : ∃ m, k = m + 9 := ⟨k - 9, by omega⟩
  unfold hindcastref17_Long.f
  rw [if_pos (by decide)]
  rw [show (0 : Int) = ((0 : Nat) : Int) from rfl]
  rw [long_step (k + 8) n _ 0 h0 h1 (by decide) (by simp)]
  rw [long_step (k + 7) _ _ 1 (by omega) (by omega) (by decide) (by simp)]
  rw [long_step (k + 6) _ _ 2 (by omega) (by omega) (by decide) (by simp)]
  rw [long_step (k + 5) _ _ 3 (by omega) (by omega) (by decide) (by simp)]
  rw [long_step (k + 4) _ _ 4 (by omega) (by omega) (by decide) (by simp)]
  rw [long_step (k + 3) _ _ 5 (by omega) (by omega) (by decide) (by simp)]
  rw [long_step (k + 2) _ _ 6 (by omega) (by omega) (by decide) (by simp)]
  rw [long_step (k + 1) _ _ 7 (by omega) (by omega) (by decide) (by simp)]
  simp only [hindcastref17_Long.l0]
  rw [if_neg (by decide)]
  congr 2
  simp [Wr.leBytes, Wr.byteAt, List.range_succ, List.replicate]
  omega
theorem size_cat (s : ByteArray) (l : List Int) : (s ++ strOfNums l).size = s.size + l.length := by rw [ByteArray.size_append, str_len]
theorem cat_cat (s : ByteArray) (a b : List Int) : s ++ strOfNums a ++ strOfNums b = s ++ strOfNums (a ++ b) := by rw [str_append, ByteArray.append_assoc]
theorem pay1_loop (e p : Int) (l2 : List S78) (l3 : List Int) (ho : okNums l2 l3) (h3 : l3.length ≤ 50) (d : Nat) : ∀ (k i : Nat) (s : ByteArray), i + d = l3.length → d + 8 < k → s.size + 8 * d ≤ 10000 →
    hindcastref17_Payload.l1 k s (i : Int) e p (l2.map cv) l3 = some (s ++ strOfNums (payC (l3.drop i))) := by
  induction d with
  | zero =>
    intro k i s hd hk hs
    obtain ⟨k, rfl⟩ : ∃ m, k = m + 1 := ⟨k - 1, by omega⟩
    simp only [hindcastref17_Payload.l1]
    rw [if_neg (by omega), List.drop_eq_nil_of_le (by omega)]
    have : strOfNums (payC []) = ByteArray.empty := rfl
    rw [this, ByteArray.append_empty]
  | succ d ih =>
    intro k i s hd hk hs
    obtain ⟨k, rfl⟩ : ∃ m, k = m + 1 := ⟨k - 1, by omega⟩
    obtain ⟨g0, g1⟩ := ho.2 _ (rd_memI l3 i (by omega))
    have hw : wrap64 ((i : Int) + 1) = ((i + 1 : Nat) : Int) := by unfold wrap64; omega
    have hl : (Wr.leBytes (rd l3 (i : Int)) 8).length = 8 := Wr.leBytes_len _ _
    simp only [hindcastref17_Payload.l1]
    rw [if_pos (by omega), if_pos (by omega), long_f _ g0 g1 k (by omega), Option.bind_some, if_pos (by rw [str_len]; omega), hw]
    rw [ih k (i + 1) _ (by omega) (by omega) (by rw [size_cat]; omega), dropI l3 i (by omega), cat_cat]
    simp [payC]
theorem pay0_loop (e p : Int) (l2 : List S78) (l3 : List Int) (ho : okNums l2 l3) (h2 : l2.length ≤ 50) (h3 : l3.length ≤ 50) (d : Nat) : ∀ (k i : Nat) (s : ByteArray), i + d = l2.length → d + 100 < k → s.size + 16 * d ≤ 5000 →
    hindcastref17_Payload.l0 k s (i : Int) e p (l2.map cv) l3 = some (s ++ strOfNums (payS (l2.drop i) ++ ([(l3.length : Int)] ++ payC l3))) := by
  induction d with
  | zero =>
    intro k i s hd hk hs
    obtain ⟨k, rfl⟩ : ∃ m, k = m + 1 := ⟨k - 1, by omega⟩
    have hm : (l3.length : Int) % 256 = (l3.length : Int) := by omega
    simp only [hindcastref17_Payload.l0, List.length_map]
    rw [if_neg (by omega), List.drop_eq_nil_of_le (by omega), hm, Option.bind_some, if_pos (by rw [str_len]; simp; omega)]
    have := pay1_loop e p l2 l3 ho h3 l3.length k 0 (s ++ strOfNums [(l3.length : Int)]) (by omega) (by omega) (by rw [size_cat]; simp; omega)
    rw [show ((0 : Nat) : Int) = 0 from rfl, List.drop_zero] at this
    rw [this, cat_cat]
    rfl
  | succ d ih =>
    intro k i s hd hk hs
    obtain ⟨k, rfl⟩ : ∃ m, k = m + 1 := ⟨k - 1, by omega⟩
    obtain ⟨f0, f1, g0, g1⟩ := ho.1 _ (rd_mem78 l2 i (by omega))
    have hw : wrap64 ((i : Int) + 1) = ((i + 1 : Nat) : Int) := by unfold wrap64; omega
    have hl0 : (Wr.leBytes (rd_T78 l2 (i : Int)).f0 8).length = 8 := Wr.leBytes_len _ _
    have hl1 : (Wr.leBytes (rd_T78 l2 (i : Int)).f1 8).length = 8 := Wr.leBytes_len _ _
    simp only [hindcastref17_Payload.l0, List.length_map]
    rw [rd_cv l2 i (by omega)]
    rw [if_pos (by omega), if_pos (by omega)]
    have q0 : hindcastref17_Long.f k (cv (rd_T78 l2 (i : Int))).f0 = some (strOfNums (Wr.leBytes (rd_T78 l2 (i : Int)).f0 8)) := long_f _ f0 f1 k (by omega)
    have q1 : hindcastref17_Long.f k (cv (rd_T78 l2 (i : Int))).f1 = some (strOfNums (Wr.leBytes (rd_T78 l2 (i : Int)).f1 8)) := long_f _ g0 g1 k (by omega)
    rw [q0, Option.bind_some, if_pos (by rw [str_len]; omega), q1, Option.bind_some, if_pos (by rw [size_cat, str_len]; omega), hw]
    rw [ih k (i + 1) _ (by omega) (by omega) (by rw [size_cat, size_cat]; omega), drop78 l2 i (by omega), cat_cat, cat_cat]
    simp [payS]
theorem le1 (n : Int) (h0 : 0 ≤ n) (h1 : n < 256) : Wr.leBytes n 1 = [n] := by
  simp [Wr.leBytes, Wr.byteAt, List.range_succ]
  omega
theorem payload_f (e p : Int) (l2 : List S78) (l3 : List Int) (he : 0 ≤ e ∧ e < 18446744073709551616) (hp : 0 ≤ p ∧ p < 256) (ho : okNums l2 l3) (h2 : l2.length ≤ 50) (h3 : l3.length ≤ 50) (k : Nat) (hk : 200 < k) :
    hindcastref17_Payload.f k e p (l2.map cv) l3 = some (strOfNums (payN e p l2 l3)) := by
  unfold hindcastref17_Payload.f
  have hm : (l2.length : Int) % 256 = (l2.length : Int) := by omega
  have hl : (Wr.leBytes e 8).length = 8 := Wr.leBytes_len _ _
  rw [List.length_map, hm, long_f e he.1 he.2 k (by omega), Option.bind_some, Option.bind_some, if_pos (by rw [str_len, str_len]; simp; omega), ← str_append]
  have := pay0_loop e p l2 l3 ho h2 h3 l2.length k 0 (strOfNums (Wr.leBytes e 8 ++ [p, (l2.length : Int)])) (by omega) (by omega) (by rw [str_len]; simp; omega)
  rw [show ((0 : Nat) : Int) = 0 from rfl, List.drop_zero] at this
  rw [this, ← str_append]
  unfold payN
  rw [le1 p hp.1 hp.2, le1 _ (by omega) (by omega), le1 _ (by omega) (by omega)]
  simp
/-! ### the document's manifest; the law -/
theorem theirs_loop (e p : Int) (l2 : List S78) (l3 : List Int) (h2 : l2.length ≤ 50) (h3 : l3.length ≤ 50) (d : Nat) : ∀ (k i : Nat), i + d = l2.length → d < k →
    hindcastlaw17_theirs.l0 k (i : Int) e p l2 l3 e p ((l2.take i).map cv) = some (e, p, l2.map cv, l3) := by
  induction d with
  | zero =>
    intro k i hd hk
    obtain ⟨k, rfl⟩ : ∃ m, k = m + 1 := ⟨k - 1, by omega⟩
    simp only [hindcastlaw17_theirs.l0]
    rw [if_neg (by omega), if_pos (by simp; omega), List.take_of_length_le (by omega)]
    rfl
  | succ d ih =>
    intro k i hd hk
    obtain ⟨k, rfl⟩ : ∃ m, k = m + 1 := ⟨k - 1, by omega⟩
    have hw : wrap64 ((i : Int) + 1) = ((i + 1 : Nat) : Int) := by unfold wrap64; omega
    simp only [hindcastlaw17_theirs.l0]
    rw [if_pos (by omega), if_pos (by omega), if_pos (by simp; omega), hw]
    have hn := ih k (i + 1) (by omega) (by omega)
    have ht : (l2.take (i + 1)).map cv = (l2.take i).map cv ++ [(⟨(rd_T78 l2 (i : Int)).f0, (rd_T78 l2 (i : Int)).f1⟩ : S84)] := by
      rw [List.take_succ_eq_append_getElem (by omega), List.map_append]
      unfold rd_T78
      rw [Int.toNat_natCast, List.getD_eq_getElem?_getD, List.getElem?_eq_getElem (by omega)]
      rfl
    rw [← ht]
    exact hn
theorem theirs_f (e p : Int) (l2 : List S78) (l3 : List Int) (h2 : l2.length ≤ 50) (h3 : l3.length ≤ 50) (k : Nat) (hk : 100 < k) : hindcastlaw17_theirs.f k e p l2 l3 = some (e, p, l2.map cv, l3) := by
  unfold hindcastlaw17_theirs.f
  exact theirs_loop e p l2 l3 h2 h3 l2.length k 0 (by omega) (by omega)
end Go.Proofs.YtnhjhaphfdlkfaaDoor.PM
