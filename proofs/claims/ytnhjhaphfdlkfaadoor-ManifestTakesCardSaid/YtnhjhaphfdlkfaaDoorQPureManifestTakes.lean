/- A text of up to 6000 bytes is taken by the program and by the document alike. Conditions: none but the law's own guard. -/
import Derived.Test.YtnhjhaphfdlkfaaDoorQPV
import Derived.Test.YtnhjhaphfdlkfaaDoorQHMx14
set_option linter.unusedVariables false
namespace Go.Proofs.YtnhjhaphfdlkfaaDoor.PT
open Go.RowKit Go.Proofs.YtnhjhaphfdlkfaaDoor.HM Go.Proofs.YtnhjhaphfdlkfaaDoorW.PrintWords Go.Proofs.YtnhjhaphfdlkfaaDoorW.PrintLast Go.Proofs.YtnhjhaphfdlkfaaDoorW.PrintMore
open Go.Proofs.YtnhjhaphfdlkfaaDoor.PB Go.Proofs.YtnhjhaphfdlkfaaDoor.PM
set_option maxRecDepth 100000 in
theorem awakeT : hindcastlaw17_awake.f 101002 = some true := by decide +kernel
theorem take_lens (l : List UInt8) : (takeN l).2.2.1.length ≤ 12 ∧ (takeN l).2.2.2.1.length ≤ 2 := by
  unfold takeN
  by_cases c0 : (nextN l).2.2 = 0
  · rw [if_pos c0]
    split
    · rename_i c1; exact ok_lens c1.2.2
    · exact ⟨Nat.zero_le _, Nat.zero_le _⟩
  · rw [if_neg c0]; exact ⟨Nat.zero_le _, Nat.zero_le _⟩
theorem rsame1 (e p e' p' : Int) (l2 : List S84) (l3 : List Int) (h3 : l3.length ≤ 100) (d : Nat) : ∀ (k i : Nat), i + d = l3.length → d < k → hindcastref17_Same.l1 k (i : Int) e p l2 l3 e' p' l2 l3 = some true := by
  induction d with
  | zero =>
    intro k i hd hk
    obtain ⟨k, rfl⟩ : ∃ m, k = m + 1 := ⟨k - 1, by omega⟩
    simp only [hindcastref17_Same.l1]
    rw [if_neg (by omega)]
  | succ d ih =>
    intro k i hd hk
    obtain ⟨k, rfl⟩ : ∃ m, k = m + 1 := ⟨k - 1, by omega⟩
    have hw : wrap64 ((i : Int) + 1) = ((i + 1 : Nat) : Int) := by unfold wrap64; omega
    simp only [hindcastref17_Same.l1]
    rw [if_pos (by omega), if_pos (by omega), if_pos (by omega), if_pos trivial, hw]
    exact ih k (i + 1) (by omega) (by omega)
theorem rsame0 (e p e' p' : Int) (l2 : List S84) (l3 : List Int) (h2 : l2.length ≤ 100) (h3 : l3.length ≤ 100) (d : Nat) : ∀ (k i : Nat), i + d = l2.length → d + 200 < k → hindcastref17_Same.l0 k (i : Int) e p l2 l3 e' p' l2 l3 = some true := by
  induction d with
  | zero =>
    intro k i hd hk
    obtain ⟨k, rfl⟩ : ∃ m, k = m + 1 := ⟨k - 1, by omega⟩
    simp only [hindcastref17_Same.l0]
    rw [if_neg (by omega)]
    exact rsame1 e p e' p' l2 l3 h3 l3.length k 0 (by omega) (by omega)
  | succ d ih =>
    intro k i hd hk
    obtain ⟨k, rfl⟩ : ∃ m, k = m + 1 := ⟨k - 1, by omega⟩
    have hw : wrap64 ((i : Int) + 1) = ((i + 1 : Nat) : Int) := by unfold wrap64; omega
    simp only [hindcastref17_Same.l0]
    rw [if_pos (by omega), if_pos (by omega), if_pos (by omega), if_neg (by simp), hw]
    exact ih k (i + 1) (by omega) (by omega)
theorem rsame_f (e p : Int) (l2 : List S84) (l3 : List Int) (h2 : l2.length ≤ 100) (h3 : l3.length ≤ 100) (k : Nat) (hk : 1000 < k) : hindcastref17_Same.f k e p l2 l3 e p l2 l3 = some true := by
  obtain ⟨k, rfl⟩ : ∃ m, k = m + 1 := ⟨k - 1, by omega⟩
  unfold hindcastref17_Same.f
  have hz : ((l3.length : Int) != (l3.length : Int)) = false := by simp
  rw [if_pos rfl, if_pos rfl, if_pos rfl, hz]
  simp only [hindcastref17_Same.j0]
  rw [if_neg (by decide)]
  exact rsame0 e p e p l2 l3 h2 h3 l2.length k 0 (by omega) (by omega)
theorem takes_f (s : ByteArray) : hindcastlaw17_ManifestTakes.f 101002 s = some true := by
  unfold hindcastlaw17_ManifestTakes.f
  by_cases hs : (s.size : Int) > 6000
  · rw [if_pos hs, awakeT]; rfl
  · rw [if_neg hs]
    obtain ⟨l, rfl⟩ : ∃ l, s = bs l := ⟨s.data.toList, (bs_of s).symm⟩
    rw [bs_size] at hs
    rw [take_f l (by omega) 101002 (by decide), Option.bind_some, ref_take l (by omega) 101002 (by decide), Option.bind_some, ← both l]
    obtain ⟨q2, q3⟩ := take_lens l
    generalize takeN l = t at q2 q3 ⊢
    obtain ⟨e, p, l2, l3, er⟩ := t
    dsimp only at q2 q3 ⊢
    rw [theirs_f e p l2 l3 (by omega) (by omega) 101002 (by decide), Option.bind_some]
    dsimp only
    rw [rsame_f e p (l2.map cv) l3 (by rw [List.length_map]; omega) (by omega) 101002 (by decide), Option.bind_some, if_pos rfl, if_pos rfl, awakeT]
    rfl
end Go.Proofs.YtnhjhaphfdlkfaaDoor.PT
