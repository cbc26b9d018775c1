/- Plain laws on the printed functions of the manifest: whether it may be, its payload, its text. -/
import Derived.Test.YtnhjhaphfdlkfaaDoorQPB
set_option linter.unusedVariables false
namespace Go.Proofs.YtnhjhaphfdlkfaaDoor.PM
open Go.RowKit Go.Proofs.YtnhjhaphfdlkfaaDoor.HM Go.Proofs.YtnhjhaphfdlkfaaDoorW.PrintWords Go.Proofs.YtnhjhaphfdlkfaaDoorW.PrintLast Go.Proofs.YtnhjhaphfdlkfaaDoorW.PrintMore
open Go.Proofs.YtnhjhaphfdlkfaaDoor.PB
def rises : Int → Int → List S78 → Bool
  | _, _, [] => true
  | a, b, x :: l => decide (a < x.f0) && (decide (b ≤ x.f1) && rises x.f0 x.f1 l)
def tailB (l3 : List Int) : Bool := if l3.length = 2 then decide (rd l3 1 < rd l3 0) else true
/-- May it be? -/
def okB (e p : Int) (l2 : List S78) (l3 : List Int) : Bool := decide (e ≠ 0) && (decide (p ≤ 1) && (decide (1 ≤ l2.length) && (decide (l2.length ≤ 12) && (decide (l3.length ≤ 2) && (rises 0 0 l2 && tailB l3)))))
theorem drop78 (l : List S78) (i : Nat) (h : i < l.length) : l.drop i = rd_T78 l (i : Int) :: l.drop (i + 1) := by
  rw [List.drop_eq_getElem_cons h]
  unfold rd_T78
  rw [Int.toNat_natCast, List.getD_eq_getElem?_getD, List.getElem?_eq_getElem h]
  rfl
theorem check_loop (e p : Int) (l2 : List S78) (l3 : List Int) (hl : l2.length ≤ 12) (h3 : l3.length ≤ 2) (d : Nat) : ∀ (k i : Nat) (a b : Int), i + d = l2.length → d < k →
    manifest_Check.l0 k l2 (l2.length : Int) (i : Int) e p l2 l3 a b = some (if (rises a b (l2.drop i) && tailB l3) = true then 0 else 4) := by
  induction d with
  | zero =>
    intro k i a b hd hk
    obtain ⟨k, rfl⟩ : ∃ m, k = m + 1 := ⟨k - 1, by omega⟩
    simp only [manifest_Check.l0]
    rw [if_neg (by omega), List.drop_eq_nil_of_le (by omega)]
    unfold rises tailB
    by_cases h : l3.length = 2
    · rw [if_pos (by omega), if_pos (by omega), if_pos (by omega), if_pos h]
      by_cases c : rd l3 0 ≤ rd l3 1
      · rw [if_pos c, if_neg (by simp; omega)]
      · rw [if_neg c, if_pos (by simp; omega)]
    · rw [if_neg (by omega), if_neg h]; simp
  | succ d ih =>
    intro k i a b hd hk
    obtain ⟨k, rfl⟩ : ∃ m, k = m + 1 := ⟨k - 1, by omega⟩
    simp only [manifest_Check.l0]
    rw [if_pos (by omega), if_pos (by omega), if_pos (by omega), drop78 l2 i (by omega)]
    have hw : wrap64 ((i : Int) + 1) = ((i + 1 : Nat) : Int) := by unfold wrap64; omega
    rw [hw]
    have hn := ih k (i + 1) (rd_T78 l2 i).f0 (rd_T78 l2 i).f1 (by omega) (by omega)
    by_cases c1 : (rd_T78 l2 i).f0 ≤ a
    · rw [if_pos c1, if_neg (by simp [rises]; omega)]
    · rw [if_neg c1]
      by_cases c2 : (rd_T78 l2 i).f1 < b
      · rw [if_pos c2, if_neg (by simp [rises]; omega)]
      · rw [if_neg c2, hn]
        have e1 : decide (a < (rd_T78 l2 i).f0) = true := decide_eq_true (by omega)
        have e2 : decide (b ≤ (rd_T78 l2 i).f1) = true := decide_eq_true (by omega)
        simp only [rises, e1, e2, Bool.true_and]
theorem check_f (e p : Int) (l2 : List S78) (l3 : List Int) (k : Nat) (hk : 100 < k) : manifest_Check.f k e p l2 l3 = some (if okB e p l2 l3 = true then 0 else 4) := by
  obtain ⟨k, rfl⟩ : ∃ m, k = m + 1 := ⟨k - 1, by omega⟩
  unfold manifest_Check.f okB
  have j1 : manifest_Check.j0 (k + 1) true e p l2 l3 = some 4 := by simp only [manifest_Check.j0, if_true]
  by_cases a1 : e = 0
  · rw [if_pos a1, j1, if_neg (by simp [a1])]
  · rw [if_neg a1]
    by_cases a2 : p > 1
    · rw [if_pos a2, j1, if_neg (by simp; omega)]
    · rw [if_neg a2]
      by_cases a3 : (l2.length : Int) < 1
      · rw [if_pos a3, j1, if_neg (by simp; omega)]
      · rw [if_neg a3]
        by_cases a4 : (l2.length : Int) > 12
        · rw [if_pos a4, j1, if_neg (by simp; omega)]
        · rw [if_neg a4]
          by_cases a5 : (l3.length : Int) > 2
          · have : decide ((l3.length : Int) > 2) = true := decide_eq_true a5
            rw [this, j1, if_neg (by simp; omega)]
          · have h5 : decide ((l3.length : Int) > 2) = false := decide_eq_false a5
            rw [h5]
            simp only [manifest_Check.j0]
            rw [if_neg (by decide)]
            have := check_loop e p l2 l3 (by omega) (by omega) l2.length k 0 0 0 (by omega) (by omega)
            rw [show ((0 : Nat) : Int) = 0 from rfl, List.drop_zero] at this
            rw [this]
            have b1 : decide (e ≠ 0) = true := by simp [a1]
            have b2 : decide (p ≤ 1) = true := decide_eq_true (by omega)
            have b3 : decide (1 ≤ l2.length) = true := decide_eq_true (by omega)
            have b4 : decide (l2.length ≤ 12) = true := decide_eq_true (by omega)
            have b5 : decide (l3.length ≤ 2) = true := decide_eq_true (by omega)
            rw [b1, b2, b3, b4, b5]
            simp only [Bool.true_and]
def okNums (l2 : List S78) (l3 : List Int) : Prop := (∀ x ∈ l2, 0 ≤ x.f0 ∧ x.f0 < 18446744073709551616 ∧ 0 ≤ x.f1 ∧ x.f1 < 18446744073709551616) ∧ ∀ x ∈ l3, 0 ≤ x ∧ x < 18446744073709551616
theorem rd_mem78 (l : List S78) (i : Nat) (h : i < l.length) : rd_T78 l (i : Int) ∈ l := by
  unfold rd_T78
  rw [Int.toNat_natCast, List.getD_eq_getElem?_getD, List.getElem?_eq_getElem h]
  exact List.getElem_mem h
theorem rd_memI (l : List Int) (i : Nat) (h : i < l.length) : rd l (i : Int) ∈ l := by
  unfold rd
  rw [Int.toNat_natCast, List.getD_eq_getElem?_getD, List.getElem?_eq_getElem h]
  exact List.getElem_mem h
theorem dropI (l : List Int) (i : Nat) (h : i < l.length) : l.drop i = rd l (i : Int) :: l.drop (i + 1) := by
  rw [List.drop_eq_getElem_cons h]
  unfold rd
  rw [Int.toNat_natCast, List.getD_eq_getElem?_getD, List.getElem?_eq_getElem h]
  rfl
end Go.Proofs.YtnhjhaphfdlkfaaDoor.PM
