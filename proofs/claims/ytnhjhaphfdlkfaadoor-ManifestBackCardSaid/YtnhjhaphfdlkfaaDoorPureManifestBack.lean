/- What is put is taken as what it was; what is taken has that text. Conditions: none but the law's own guard. -/
import Derived.Test.YtnhjhaphfdlkfaaDoorPU
import Derived.Test.YtnhjhaphfdlkfaaDoorHMx7
import Derived.Test.YtnhjhaphfdlkfaaDoorHMx15
set_option linter.unusedVariables false
namespace Go.Proofs.YtnhjhaphfdlkfaaDoor.PT
open Go.RowKit Go.Proofs.YtnhjhaphfdlkfaaDoor.HM Go.Proofs.YtnhjhaphfdlkfaaDoorW.PrintWords Go.Proofs.YtnhjhaphfdlkfaaDoorW.PrintLast Go.Proofs.YtnhjhaphfdlkfaaDoorW.PrintMore
open Go.Proofs.YtnhjhaphfdlkfaaDoor.PB Go.Proofs.YtnhjhaphfdlkfaaDoor.PM

set_option maxRecDepth 100000 in
theorem awake1 : hindcastlaw17_awake.f 101002 = some true := by decide +kernel
set_option maxRecDepth 100000 in
theorem awake2 : hindcastlaw17_awake.f 101001 = some true := by decide +kernel

theorem taken (l : List UInt8) (h : (takeN l).2.2.2.2 = 0) : okB (takeN l).1 (takeN l).2.1 (takeN l).2.2.1 (takeN l).2.2.2.1 = true ∧ (0 ≤ (takeN l).1 ∧ (takeN l).1 < 18446744073709551616) ∧ (0 ≤ (takeN l).2.1 ∧ (takeN l).2.1 < 256) ∧
    okNums (takeN l).2.2.1 (takeN l).2.2.2.1 ∧ textN (takeN l).1 (takeN l).2.1 (takeN l).2.2.1 (takeN l).2.2.2.1 = bs l := by
  unfold takeN at h ⊢
  by_cases c0 : (nextN l).2.2 = 0
  · rw [if_pos c0] at h ⊢
    by_cases c1 : (nextN l).2.1 = (l.length : Int) ∧ (tell (nextN l).1).left = some [] ∧ okB (tell (nextN l).1).e (tell (nextN l).1).pl (tell (nextN l).1).l2 (tell (nextN l).1).l3 = true
    · rw [if_pos c1] at h ⊢
      obtain ⟨u, v, ok⟩ := c1
      have ok' := ok
      unfold okB at ok'
      simp only [Bool.and_eq_true, decide_eq_true_eq] at ok'
      obtain ⟨_, _, _, q2, q3, _⟩ := ok'
      obtain ⟨i1, i2, i3, i4⟩ := tell_inv (nextN l).1 v q2 q3
      obtain ⟨_, i5⟩ := next_inv l c0 u
      refine ⟨ok, i2, i3, i4, ?_⟩
      unfold textN
      rw [str_bs, i5]
      dsimp only
      rw [← i1]
    · rw [if_neg c1] at h; simp at h
  · rw [if_neg c0] at h; exact absurd h c0
theorem not_taken (l : List UInt8) (h : ¬ (takeN l).2.2.2.2 = 0) : (takeN l).1 = 0 ∧ (takeN l).2.1 = 0 ∧ (takeN l).2.2.1 = [] ∧ (takeN l).2.2.2.1 = [] := by
  unfold takeN at h ⊢
  by_cases c0 : (nextN l).2.2 = 0
  · rw [if_pos c0] at h ⊢
    split
    · rename_i c1; rw [if_pos c1] at h; exact absurd rfl h
    · exact ⟨rfl, rfl, rfl, rfl⟩
  · rw [if_neg c0]; exact ⟨rfl, rfl, rfl, rfl⟩
theorem back1 (s : ByteArray) (hs : s.size ≤ 6000) : hindcastlaw17_ManifestBack.j1 101002 s = some true := by
  obtain ⟨l, rfl⟩ : ∃ l, s = bs l := ⟨s.data.toList, (bs_of s).symm⟩
  rw [bs_size] at hs
  show (manifest_Take.f 101001 (bs l)).bind _ = _
  rw [take_f l (by omega) 101001 (by decide), Option.bind_some]
  by_cases h : (takeN l).2.2.2.2 = 0
  · rw [if_pos h]
    obtain ⟨ok, he, hp, ho, ht⟩ := taken l h
    have ok' := ok
    unfold okB at ok'
    simp only [Bool.and_eq_true, decide_eq_true_eq] at ok'
    obtain ⟨_, _, _, q2, q3, _⟩ := ok'
    rw [put_f _ _ _ _ he hp ho (by omega) (by omega) 101001 (by decide), Option.bind_some, if_pos ok, ht]
    dsimp only
    rw [if_pos rfl, if_pos rfl, awake2]
    rfl
  · rw [if_neg h]
    obtain ⟨a, b, c, d⟩ := not_taken l h
    rw [a, b, c, d, same_f 0 0 [] [] (by decide) (by decide) 101001 (by decide), Option.bind_some, if_pos rfl, awake2]
    rfl
theorem back_f (e p : Int) (l2 : List S78) (l3 : List Int) (s : ByteArray) (he : 0 ≤ e ∧ e < 18446744073709551616) (hp : 0 ≤ p ∧ p < 256) (ho : okNums l2 l3) : hindcastlaw17_ManifestBack.f 101003 e p l2 l3 s = some true := by
  have jt : ∀ e p l2 l3, hindcastlaw17_ManifestBack.j0 101003 s true e p l2 l3 = some true := by
    intro e p l2 l3
    have h : hindcastlaw17_ManifestBack.j0 (101002 + 1) s true e p l2 l3 = some true := by
      simp only [hindcastlaw17_ManifestBack.j0, if_true]
      rw [awake1]
      rfl
    exact h
  unfold hindcastlaw17_ManifestBack.f hindcastlaw17_few.f
  by_cases h2 : (l2.length : Int) ≤ 50
  · rw [if_pos h2, Option.bind_some]
    by_cases h3 : (l3.length : Int) ≤ 50
    · have d3 : decide ((l3.length : Int) ≤ 50) = true := decide_eq_true h3
      rw [if_pos d3]
      by_cases hs : (s.size : Int) > 6000
      · have ds : decide ((s.size : Int) > 6000) = true := decide_eq_true hs
        rw [ds, jt]
      · have ds : decide ((s.size : Int) > 6000) = false := decide_eq_false hs
        rw [ds]
        rw [show (101003 : Nat) = 101002 + 1 from rfl]
        simp only [hindcastlaw17_ManifestBack.j0]
        rw [if_neg (by decide), put_f e p l2 l3 he hp ho (by omega) (by omega) 101002 (by decide), Option.bind_some]
        by_cases ok : okB e p l2 l3 = true
        · rw [if_pos ok]
          dsimp only
          rw [if_pos rfl]
          unfold textN
          rw [str_bs, frame_list]
          have hl : (enc (headN (bs (enc (payN e p l2 l3)))) ++ enc (payN e p l2 l3)).length ≤ 100000 := by
            rw [List.length_append, enc_len, enc_len, payN_len]
            unfold headN
            rw [List.length_append, Wr.leBytes_len, Wr.leBytes_len]
            omega
          rw [take_f _ hl 101002 (by decide), Option.bind_some, take_put e p l2 l3 he hp ho ok]
          dsimp only
          rw [if_pos rfl, same_f e p l2 l3 (by omega) (by omega) 101002 (by decide), Option.bind_some, if_pos rfl]
          exact back1 s (by omega)
        · rw [if_neg ok]
          dsimp only
          rw [if_neg (by decide)]
          exact back1 s (by omega)
    · have d3 : decide ((l3.length : Int) ≤ 50) = false := decide_eq_false h3
      rw [if_neg (by rw [d3]; decide), jt]
  · rw [if_neg h2, Option.bind_some, if_neg (by decide), jt]
end Go.Proofs.YtnhjhaphfdlkfaaDoor.PT
