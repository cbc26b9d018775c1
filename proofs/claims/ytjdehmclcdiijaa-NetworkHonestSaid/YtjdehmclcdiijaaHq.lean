/- container/heap over the network's queue. -/
import Derived.Test.YtjdehmclcdiijaaHp
set_option linter.unusedVariables false
namespace Go.Proofs.Ytjdehmclcdiijaa.Hp
open Go.RowKit Go.Proofs.YtjdehmclcdiijaaW.PrintWords Go.Proofs.YtjdehmclcdiijaaW.PrintLast Go.Proofs.YtjdehmclcdiijaaW.PrintMore

theorem m_push (w : World) (a : Addr) : (method 205 70 (.pointer (some a)) "Push").run Try.prog w = .ok (55, .pointer (some a)) w := by kernel_rfl
theorem m_pop (w : World) (a : Addr) : (method 205 70 (.pointer (some a)) "Pop").run Try.prog w = .ok (54, .pointer (some a)) w := by kernel_rfl
theorem m_len0 (w : World) (a : Addr) : (method 205 70 (.pointer (some a)) "Len").run Try.prog w = ((loadVar 58 a).bind (fun v => pure (51, v))).run Try.prog w := by kernel_rfl
theorem m_less0 (w : World) (a : Addr) : (method 205 70 (.pointer (some a)) "Less").run Try.prog w = ((loadVar 58 a).bind (fun v => pure (52, v))).run Try.prog w := by kernel_rfl
theorem m_swap0 (w : World) (a : Addr) : (method 205 70 (.pointer (some a)) "Swap").run Try.prog w = ((loadVar 58 a).bind (fun v => pure (53, v))).run Try.prog w := by kernel_rfl
theorem load58 (w : World) (a : Addr) (v : Value) (h : w.cell? a = some v) : (loadVar 58 a).run Try.prog w = .ok v w := by
  have := Try.underlying58
  go_simp
theorem m_len {w : World} {a : Addr} {v : Value} (h : w.cell? a = some v) : (method 205 70 (.pointer (some a)) "Len").run Try.prog w = .ok (51, v) w := by
  rw [m_len0]
  exact (Sem.run_bind' _ _ _ _).trans (by rw [load58 w a v h]; rfl)
theorem m_less {w : World} {a : Addr} {v : Value} (h : w.cell? a = some v) : (method 205 70 (.pointer (some a)) "Less").run Try.prog w = .ok (52, v) w := by
  rw [m_less0]
  exact (Sem.run_bind' _ _ _ _).trans (by rw [load58 w a v h]; rfl)
theorem m_swap {w : World} {a : Addr} {v : Value} (h : w.cell? a = some v) : (method 205 70 (.pointer (some a)) "Swap").run Try.prog w = .ok (53, v) w := by
  rw [m_swap0]
  exact (Sem.run_bind' _ _ _ _).trans (by rw [load58 w a v h]; rfl)

def swp (l : List D) (i k : Nat) : List D := (l.set i (l.getD k d0)).set k (l.getD i d0)
theorem swp_len (l : List D) (i k : Nat) : (swp l i k).length = l.length := by simp [swp]
/-- What up makes of a row. -/
def hup (l : List D) (j : Nat) : List D :=
  if h : j = 0 ∨ less (l.getD j d0) (l.getD ((j - 1) / 2) d0) = false then l else hup (swp l ((j - 1) / 2) j) ((j - 1) / 2)
termination_by j
decreasing_by omega
theorem hup_stop {l : List D} {j : Nat} (h : j = 0 ∨ less (l.getD j d0) (l.getD ((j - 1) / 2) d0) = false) : hup l j = l := by rw [hup]; simp only [h, ↓reduceDIte]
theorem hup_go {l : List D} {j : Nat} (h0 : j ≠ 0) (h : less (l.getD j d0) (l.getD ((j - 1) / 2) d0) = true) : hup l j = hup (swp l ((j - 1) / 2) j) ((j - 1) / 2) := by
  rw [hup]
  have : ¬ (j = 0 ∨ less (l.getD j d0) (l.getD ((j - 1) / 2) d0) = false) := by rw [h]; simp [h0]
  simp only [this, ↓reduceDIte]

theorem grown_undrew {a c : World} {row : Option Nat} (h : a.drew.grownBy c row) : a.grownBy c row := ⟨h.os, h.tape, h.output, h.size, h.block⟩

/-- What a call that turns a row leaves: the cell of the row, and all but the row's block. -/
theorem q_turned {w w' : World} {base b cap : Nat} {a : Addr} {l l' : List D} (h : Q w base a b cap l) (hl : l'.length = l.length) (hr : Row w' base b cap l') (hg : w.grownBy w' (some b)) : Q w' base a b cap l' := by
  obtain ⟨h1, h2, h3, h4⟩ := h
  have hne : some a.block ≠ some b := by simpa using h3
  refine ⟨?_, ?_, h3, hr⟩
  · rw [hl]; exact hg.cell h1 hne
  · rw [← h2]; exact World.frozen?_of_block (hg.block a.block (World.block_lt_of_cell? w a h1) hne)

set_option maxHeartbeats 1000000 in
theorem up_calls (w : World) (base b cap : Nat) (a : Addr) (l : List D) (h : Q w base a b cap l) (j : Nat) (hj : j < l.length) (hl : l.length ≤ 1000) :
    Calls Try.prog 32 #[.iface 70 (.pointer (some a)), .int .i64 j] w fun e w' => e = .returned (.tuple #[]) ∧ Row w' base b cap (hup l j) ∧ w.grownBy w' (some b) := by
  have H := Lib.hid h
  clear h
  go_enter Try.func32, Try.ntmps32
  go_wp2
  go_loopw [1] (fun i wr => ∃ k : Nat, ∃ l2 : List D, i = .int .i64 k ∧ k < l2.length ∧ l2.length = l.length ∧ hup l2 k = hup l j ∧ Q wr base a b cap l2 ∧ w.grownBy wr (some b)) (fun i _ => (intOf i).toNat)
  case atStart => exact ⟨j, l, rfl, hj, rfl, rfl, H.out, ⟨rfl, rfl, rfl, Nat.le_refl _, fun _ _ _ => rfl⟩⟩
  case round =>
    obtain ⟨k, l2, rfl, hk, hlen, hup2, hQ, hG⟩ := hrel
    have HQ := Lib.hid hQ
    have HG := Lib.hid hG
    have HU := Lib.hid hup2
    clear hG hup2
    obtain ⟨c1, c2, c3, c4⟩ := hQ
    by_cases hk0 : k = 0
    · subst hk0
      go_wp2
      rw [hup_stop (Or.inl rfl)] at HU
      go_end0
      rw [← HU.out]
      exact ⟨rfl, c4, HG.out⟩
    · have hi : ((k : Int) - 1) / 2 = (((k - 1) / 2 : Nat) : Int) := by omega
      have hik : (k - 1) / 2 < k := by omega
      have hne : (((k : Int) - 1) / 2 == (k : Int)) = false := by simp; omega
      have hm := m_less c1
      have HL := Lib.hid (less_calls wr base b cap l2 c4 k ((k - 1) / 2) hk (by omega) (by omega))
      rw [← hi] at HL
      have hk1 : k < 1000 := by omega
      have hk2 : 0 < k := by omega
      have HI := Lib.hid hi
      have HLEN := Lib.hid hlen
      clear hi hlen
      generalize hb : less (l2.getD k d0) (l2.getD ((k - 1) / 2) d0) = bb at HL
      have hs : (method 205 70 (.pointer (some a)) "Swap").run Try.prog wr.drew = .ok (53, .slice (some ⟨b, 0, none⟩) l2.length cap) wr.drew := m_swap (w := wr.drew) c1
      have HS := Lib.hid (swap_calls wr.drew base b cap l2 (row_drew c4) ((k - 1) / 2) k (by omega) hk (by have := HLEN.out; omega))
      rw [← HI.out] at HS
      cases bb
      · go_wp2_with (go_at_call 52; refine (HL.out).mono ?_; rintro e w2 ⟨rfl, rfl⟩)
        rw [hup_stop (Or.inr hb)] at HU
        go_end0
        rw [← HU.out]
        exact ⟨rfl, row_drew c4, grown_drew HG.out⟩
      · go_wp2_with (first | (go_at_call 52; refine (HL.out).mono ?_; rintro e w2 ⟨rfl, rfl⟩) | (go_at_call 53; refine (HS.out).mono ?_; rintro e w2 ⟨rfl, hR, hG4⟩; have hG3 := grown_undrew hG4; clear hG4))
        refine ⟨⟨(k - 1) / 2, swp l2 ((k - 1) / 2) k, by rw [HI.out], by rw [swp_len]; omega, (swp_len _ _ _).trans HLEN.out, (hup_go hk0 hb).symm.trans HU.out, ?_, grown_trans HG.out hG3⟩, ?_⟩
        · exact q_turned (w := wr) HQ.out (swp_len _ _ _) hR hG3
        · simp [intOf]; omega

/-- The lesser child. -/
def child (l : List D) (i n : Nat) : Nat := if 2 * i + 2 < n ∧ less (l.getD (2 * i + 2) d0) (l.getD (2 * i + 1) d0) = true then 2 * i + 2 else 2 * i + 1
theorem child_gt (l : List D) (i n : Nat) : i < child l i n := by unfold child; split <;> omega
theorem child_lt {l : List D} {i n : Nat} (h : 2 * i + 1 < n) : child l i n < n := by unfold child; split <;> omega
/-- What down makes of a row's first n. -/
def hdown (l : List D) (i n : Nat) : List D :=
  if h : n ≤ 2 * i + 1 ∨ less (l.getD (child l i n) d0) (l.getD i d0) = false then l else hdown (swp l i (child l i n)) (child l i n) n
termination_by n - i
decreasing_by have := child_gt l i n; have := child_lt (l := l) (i := i) (n := n) (by omega); omega
theorem hdown_stop {l : List D} {i n : Nat} (h : n ≤ 2 * i + 1 ∨ less (l.getD (child l i n) d0) (l.getD i d0) = false) : hdown l i n = l := by rw [hdown]; simp only [h, ↓reduceDIte]
theorem hdown_go {l : List D} {i n : Nat} (h0 : 2 * i + 1 < n) (h : less (l.getD (child l i n) d0) (l.getD i d0) = true) : hdown l i n = hdown (swp l i (child l i n)) (child l i n) n := by
  rw [hdown]
  have : ¬ (n ≤ 2 * i + 1 ∨ less (l.getD (child l i n) d0) (l.getD i d0) = false) := by rw [h]; simp; omega
  simp only [this, ↓reduceDIte]

set_option maxHeartbeats 2000000 in
theorem down_calls (w : World) (base b cap : Nat) (a : Addr) (l : List D) (h : Q w base a b cap l) (i0 n : Nat) (hi : i0 < l.length) (hn : n ≤ l.length) (hl : l.length ≤ 1000) :
    Calls Try.prog 33 #[.iface 70 (.pointer (some a)), .int .i64 i0, .int .i64 n] w fun e w' => (∃ r, e = .returned (.bool r)) ∧ Row w' base b cap (hdown l i0 n) ∧ w.grownBy w' (some b) := by
  have H := Lib.hid h
  clear h
  go_enter Try.func33, Try.ntmps33
  go_wp2
  go_loopw [7] (fun i wr => ∃ k : Nat, ∃ l2 : List D, i = .int .i64 k ∧ k < l2.length ∧ l2.length = l.length ∧ hdown l2 k n = hdown l i0 n ∧ Q wr base a b cap l2 ∧ w.grownBy wr (some b)) (fun i _ => l.length - (intOf i).toNat)
  case atStart => exact ⟨i0, l, rfl, hi, rfl, rfl, H.out, ⟨rfl, rfl, rfl, Nat.le_refl _, fun _ _ _ => rfl⟩⟩
  case round =>
    obtain ⟨k, l2, rfl, hk, hlen, hdn2, hQ, hG⟩ := hrel
    have HQ := Lib.hid hQ
    have HG := Lib.hid hG
    have HU := Lib.hid hdn2
    have hk1 : k < 1000 := by omega
    have hn1 : n ≤ 1000 := by omega
    have HLEN := Lib.hid hlen
    clear hG hdn2 hlen
    obtain ⟨c1, c2, c3, c4⟩ := hQ
    by_cases h1 : n ≤ 2 * k + 1
    · have h1' : (n : Int) ≤ 2 * (k : Int) + 1 := by omega
      go_wp2
      rw [hdown_stop (Or.inl h1)] at HU
      go_ret
      rw [← HU.out]
      exact ⟨⟨_, rfl⟩, c4, HG.out⟩
    · have h1' : 2 * (k : Int) + 1 < (n : Int) := by omega
      have hm := m_less c1
      have hkl := HLEN.out
      have e1 := Lib.hid (show ((2 * k + 1 : Nat) : Int) = 2 * (k : Int) + 1 by omega)
      have e2 := Lib.hid (show ((2 * k + 2 : Nat) : Int) = 2 * (k : Int) + 1 + 1 by omega)
      have g1 : ¬ ((n : Int) ≤ 2 * (k : Int) + 1) := by omega
      have g2 : ¬ (2 * (k : Int) + 1 < 0) := by omega
      by_cases h2 : 2 * k + 2 < n
      · have h2' : 2 * (k : Int) + 1 + 1 < (n : Int) := by omega
        have HL2 := Lib.hid (less_calls wr base b cap l2 c4 (2 * k + 2) (2 * k + 1) (by omega) (by omega) (by omega))
        rw [e1.out, e2.out] at HL2
        generalize hb2 : less (l2.getD (2 * k + 2) d0) (l2.getD (2 * k + 1) d0) = b2 at HL2
        cases b2
        · have hc : child l2 k n = 2 * k + 1 := by unfold child; rw [if_neg (by rw [hb2]; simp)]
          clear hb2
          have HC := Lib.hid hc
          clear hc
          have HM := Lib.hid (less_calls wr.drew base b cap l2 (row_drew c4) (2 * k + 1) k (by omega) hk (by omega))
          have hm2 : (method 205 70 (.pointer (some a)) "Less").run Try.prog wr.drew = .ok (52, .slice (some ⟨b, 0, none⟩) l2.length cap) wr.drew := m_less (w := wr.drew) c1
          have hs : (method 205 70 (.pointer (some a)) "Swap").run Try.prog wr.drew.drew = .ok (53, .slice (some ⟨b, 0, none⟩) l2.length cap) wr.drew.drew := m_swap (w := wr.drew.drew) c1
          have HS := Lib.hid (swap_calls wr.drew.drew base b cap l2 (row_drew (row_drew c4)) k (2 * k + 1) hk (by omega) (by omega))
          clear hkl
          rw [e1.out] at HM HS
          generalize hb : less (l2.getD (2 * k + 1) d0) (l2.getD k d0) = bb at HM
          have HB := Lib.hid hb
          clear hb
          cases bb
          · go_wp2_with fail
            refine (HL2.out).mono ?_
            rintro e w2 ⟨rfl, rfl⟩
            go_wp2_with fail
            refine (HM.out).mono ?_
            rintro e w2 ⟨rfl, rfl⟩
            go_wp2
            rw [hdown_stop (Or.inr (by rw [HC.out]; exact HB.out))] at HU
            go_ret
            rw [← HU.out]
            exact ⟨⟨_, rfl⟩, (row_drew (row_drew c4)), grown_drew (grown_drew HG.out)⟩
          · go_wp2_with fail
            refine (HL2.out).mono ?_
            rintro e w2 ⟨rfl, rfl⟩
            go_wp2_with fail
            refine (HM.out).mono ?_
            rintro e w2 ⟨rfl, rfl⟩
            go_wp2_with fail
            refine (HS.out).mono ?_
            rintro e w2 ⟨rfl, hR, hG4⟩
            have HR := Lib.hid hR
            have HG3 := Lib.hid (grown_undrew (grown_undrew hG4))
            clear hG4 hR
            go_wp2
            refine ⟨⟨2 * k + 1, swp l2 k (2 * k + 1), by rw [e1.out], by rw [swp_len]; have := HLEN.out; omega, (swp_len _ _ _).trans HLEN.out, ?_, q_turned (w := wr) HQ.out (swp_len _ _ _) HR.out HG3.out, grown_trans HG.out HG3.out⟩, ?_⟩
            · have := hdown_go (l := l2) (i := k) (n := n) (by omega) (by rw [HC.out]; exact HB.out)
              rw [HC.out] at this
              exact this.symm.trans HU.out
            · have := HLEN.out
              simp [intOf]; omega
        · have hc : child l2 k n = 2 * k + 2 := by unfold child; rw [if_pos ⟨h2, hb2⟩]
          clear hb2
          have HC := Lib.hid hc
          clear hc
          have HM := Lib.hid (less_calls wr.drew base b cap l2 (row_drew c4) (2 * k + 2) k (by omega) hk (by omega))
          have hm2 : (method 205 70 (.pointer (some a)) "Less").run Try.prog wr.drew = .ok (52, .slice (some ⟨b, 0, none⟩) l2.length cap) wr.drew := m_less (w := wr.drew) c1
          have hs : (method 205 70 (.pointer (some a)) "Swap").run Try.prog wr.drew.drew = .ok (53, .slice (some ⟨b, 0, none⟩) l2.length cap) wr.drew.drew := m_swap (w := wr.drew.drew) c1
          have HS := Lib.hid (swap_calls wr.drew.drew base b cap l2 (row_drew (row_drew c4)) k (2 * k + 2) hk (by omega) (by omega))
          clear hkl
          rw [e2.out] at HM HS
          generalize hb : less (l2.getD (2 * k + 2) d0) (l2.getD k d0) = bb at HM
          have HB := Lib.hid hb
          clear hb
          cases bb
          · go_wp2_with fail
            refine (HL2.out).mono ?_
            rintro e w2 ⟨rfl, rfl⟩
            go_wp2_with fail
            refine (HM.out).mono ?_
            rintro e w2 ⟨rfl, rfl⟩
            go_wp2
            rw [hdown_stop (Or.inr (by rw [HC.out]; exact HB.out))] at HU
            go_ret
            rw [← HU.out]
            exact ⟨⟨_, rfl⟩, (row_drew (row_drew c4)), grown_drew (grown_drew HG.out)⟩
          · go_wp2_with fail
            refine (HL2.out).mono ?_
            rintro e w2 ⟨rfl, rfl⟩
            go_wp2_with fail
            refine (HM.out).mono ?_
            rintro e w2 ⟨rfl, rfl⟩
            go_wp2_with fail
            refine (HS.out).mono ?_
            rintro e w2 ⟨rfl, hR, hG4⟩
            have HR := Lib.hid hR
            have HG3 := Lib.hid (grown_undrew (grown_undrew hG4))
            clear hG4 hR
            go_wp2
            refine ⟨⟨2 * k + 2, swp l2 k (2 * k + 2), by rw [e2.out], by rw [swp_len]; have := HLEN.out; omega, (swp_len _ _ _).trans HLEN.out, ?_, q_turned (w := wr) HQ.out (swp_len _ _ _) HR.out HG3.out, grown_trans HG.out HG3.out⟩, ?_⟩
            · have := hdown_go (l := l2) (i := k) (n := n) (by omega) (by rw [HC.out]; exact HB.out)
              rw [HC.out] at this
              exact this.symm.trans HU.out
            · have := HLEN.out
              simp [intOf]; omega
      · have h2' : (n : Int) ≤ 2 * (k : Int) + 1 + 1 := by omega
        have hc : child l2 k n = 2 * k + 1 := by unfold child; rw [if_neg (by omega)]
        have HC := Lib.hid hc
        clear hc
        have HM := Lib.hid (less_calls wr base b cap l2 c4 (2 * k + 1) k (by omega) hk (by omega))
        have hm2 : (method 205 70 (.pointer (some a)) "Less").run Try.prog wr = .ok (52, .slice (some ⟨b, 0, none⟩) l2.length cap) wr := m_less (w := wr) c1
        have hs : (method 205 70 (.pointer (some a)) "Swap").run Try.prog wr.drew = .ok (53, .slice (some ⟨b, 0, none⟩) l2.length cap) wr.drew := m_swap (w := wr.drew) c1
        have HS := Lib.hid (swap_calls wr.drew base b cap l2 (row_drew c4) k (2 * k + 1) hk (by omega) (by omega))
        clear hkl
        rw [e1.out] at HM HS
        generalize hb : less (l2.getD (2 * k + 1) d0) (l2.getD k d0) = bb at HM
        have HB := Lib.hid hb
        clear hb
        cases bb
        · go_wp2_with fail
          refine (HM.out).mono ?_
          rintro e w2 ⟨rfl, rfl⟩
          go_wp2
          rw [hdown_stop (Or.inr (by rw [HC.out]; exact HB.out))] at HU
          go_ret
          rw [← HU.out]
          exact ⟨⟨_, rfl⟩, (row_drew c4), grown_drew HG.out⟩
        · go_wp2_with fail
          refine (HM.out).mono ?_
          rintro e w2 ⟨rfl, rfl⟩
          go_wp2_with fail
          refine (HS.out).mono ?_
          rintro e w2 ⟨rfl, hR, hG4⟩
          have HR := Lib.hid hR
          have HG3 := Lib.hid (grown_undrew hG4)
          clear hG4 hR
          go_wp2
          refine ⟨⟨2 * k + 1, swp l2 k (2 * k + 1), by rw [e1.out], by rw [swp_len]; have := HLEN.out; omega, (swp_len _ _ _).trans HLEN.out, ?_, q_turned (w := wr) HQ.out (swp_len _ _ _) HR.out HG3.out, grown_trans HG.out HG3.out⟩, ?_⟩
          · have := hdown_go (l := l2) (i := k) (n := n) (by omega) (by rw [HC.out]; exact HB.out)
            rw [HC.out] at this
            exact this.symm.trans HU.out
          · have := HLEN.out
            simp [intOf]; omega
end Go.Proofs.Ytjdehmclcdiijaa.Hp
