/- A manifest that came in, opened: its fields, its two slices as lists. -/
import Derived.Test.YtnhjhaphfdlkfaaDoorLaid
import Derived.Test.YtnhjhaphfdlkfaaDoorHMx0
import Derived.Deep.SlicePairs
import Derived.Lib.SmallJoins
import Derived.Below
set_option linter.unusedVariables false
namespace Go.Proofs.YtnhjhaphfdlkfaaDoor.LaidAt
open Go.ChangeShapes Go.WideShapes Go.ChangeAt Go.RowKit Go.Proofs.YtnhjhaphfdlkfaaDoor.HM Go.Proofs.YtnhjhaphfdlkfaaDoorW.PrintWords Go.Proofs.YtnhjhaphfdlkfaaDoorW.PrintLast Go.Proofs.YtnhjhaphfdlkfaaDoorW.PrintMore
section
variable {H : Type} {enc : TypeId × Value → H} {w : World} {base : Nat} {sp : Nat → Bool} {held : Bool}
theorem u64_of_trod {fuel : Nat} {c : Value} {y : DataW H × List MemPlace} (h : DataW.trod enc Tryd.prog w base sp held fuel 22 [c] = some y) : ∃ n, c = .int .u64 n ∧ 0 ≤ n ∧ n < 18446744073709551616 := by
  cases fuel with
  | zero => simp [DataW.trod] at h
  | succ fuel =>
    cases c <;> simp [DataW.trod, Tryd.underlying22] at h
    rename_i k' n
    obtain ⟨⟨rfl, hw⟩, rfl⟩ := h
    refine ⟨n, rfl, ?_⟩
    simp [Lit.wf, IntKind.min, IntKind.max, IntKind.signed, IntKind.bits] at hw
    omega
theorem open_parts {fuel : Nat} {c : Value} {x : DataW H × List MemPlace} (h : DataW.trod enc Tryd.prog w base sp held fuel 23 [c] = some x) :
    ∃ (A : Option Addr) (cap : Nat) (l : List S78), c = .slice A l.length cap ∧ l.length ≤ cap ∧ Kd.C k78 w A l.length l ∧ ∀ x ∈ l, 0 ≤ x.f0 ∧ x.f0 < 18446744073709551616 ∧ 0 ≤ x.f1 ∧ x.f1 < 18446744073709551616 := by
  rcases Go.Deep.open_slice_pairs Tryd.underlying23 Tryd.underlying78 (by kernel_rfl) rfl rfl (by kernel_rfl) (by kernel_rfl) h with ⟨hc, _⟩ | ⟨a, len, cap, m, n, V0, V1, D0, D1, P0, P1, hc, _, hl, hm, hmm, _, hx⟩
  · simp at hc
    subst hc
    exact ⟨none, 0, [], rfl, Nat.le_refl _, ⟨rfl, by decide, fun h => by simp at h⟩, fun x hx => by simp at hx⟩
  · simp at hc
    subst hc
    have hlm : len ≤ m := by rw [hmm]; split <;> omega
    have each : ∀ i, i < len → ∃ q : S78, V0 i = .int .u64 q.f0 ∧ V1 i = .int .u64 q.f1 ∧ 0 ≤ q.f0 ∧ q.f0 < 18446744073709551616 ∧ 0 ≤ q.f1 ∧ q.f1 < 18446744073709551616 := by
      intro i hi
      obtain ⟨_, _, h0, h1⟩ := hx i (by omega)
      obtain ⟨n0, e0, a0, b0⟩ := u64_of_trod h0
      obtain ⟨n1, e1, a1, b1⟩ := u64_of_trod h1
      exact ⟨⟨n0, n1⟩, e0, e1, a0, b0, a1, b1⟩
    have : Inhabited S78 := ⟨z78⟩
    obtain ⟨q, hq⟩ := Go.Deep.choose_lt each
    have hlen : ((List.range len).map q).length = len := by simp
    refine ⟨some a, cap, (List.range len).map q, by rw [hlen], by rw [hlen]; exact hl, ⟨rfl, ?_, fun _ => ⟨a, rfl, fun j p hj => ?_⟩⟩, ?_⟩
    · rw [hlen]; unfold maxLen at hm; omega
    · have hjl : j < len := by
        have := (List.getElem?_eq_some_iff.1 hj).1
        simpa using this
      have hp : q j = p := by
        rw [List.getElem?_map, List.getElem?_range hjl] at hj
        simpa using hj
      subst hp
      obtain ⟨e0, e1, _⟩ := hq j hjl
      obtain ⟨c0, c1, _, _⟩ := hx j (by omega)
      refine ⟨[.int .u64 (q j).f0, .int .u64 (q j).f1], rfl, ⟨_, _, rfl, rfl, rfl⟩, fun i u hi => ?_⟩
      rw [e0] at c0
      rw [e1] at c1
      match i, hi with
      | 0, hi => simp at hi; subst hi; exact c0
      | 1, hi => simp at hi; subst hi; exact c1
    · intro x hx'
      obtain ⟨j, hj, rfl⟩ := List.mem_map.1 hx'
      exact (hq j (List.mem_range.1 hj)).2.2
theorem open_u64s {fuel : Nat} {c : Value} {x : DataW H × List MemPlace} (h : DataW.trod enc Tryd.prog w base sp held fuel 24 [c] = some x) :
    ∃ (A : Option Addr) (cap : Nat) (l : List Int), c = .slice A l.length cap ∧ l.length ≤ cap ∧ Kd.C (Kd.int .u64) w A l.length l ∧ ∀ x ∈ l, 0 ≤ x ∧ x < 18446744073709551616 := by
  rcases open_ints Tryd.underlying24 Tryd.underlying22 (by kernel_rfl) h with ⟨hc, _⟩ | ⟨a, len, cap, zs, hc, _, hl, hm, hz, _, hcell, hwz⟩
  · simp at hc
    subst hc
    exact ⟨none, 0, [], rfl, Nat.le_refl _, ⟨rfl, by decide, fun h => by simp at h⟩, fun x hx => by simp at hx⟩
  · simp at hc
    subst hc
    have hlz : len ≤ zs.length := by rw [hz]; split <;> omega
    have hlen : (zs.take len).length = len := by rw [List.length_take]; omega
    refine ⟨some a, cap, zs.take len, by rw [hlen], by rw [hlen]; exact hl, ⟨rfl, ?_, fun _ => ⟨a, rfl, fun j p hj => ?_⟩⟩, ?_⟩
    · rw [hlen]; unfold maxLen at hm; omega
    · have hjl : j < len := by
        have := (List.getElem?_eq_some_iff.1 hj).1
        omega
      refine ⟨[.int .u64 p], rfl, rfl, fun i u hi => ?_⟩
      have hc := hcell j (by omega)
      have hp : zs.getD j 0 = p := by
        rw [List.getElem?_take, if_pos hjl] at hj
        rw [List.getD_eq_getElem?_getD, hj]; rfl
      rw [hp] at hc
      match i, hi with
      | 0, hi => simp at hi; subst hi; show w.cell? (a.add (j * 1 + 0)) = _; rw [Nat.mul_one, Nat.add_zero]; exact hc
    · intro x hx
      have := hwz x (List.mem_of_mem_take hx)
      simp [Lit.wf, IntKind.min, IntKind.max, IntKind.signed, IntKind.bits] at this
      omega
theorem u8_of_trod {fuel : Nat} {c : Value} {y : DataW H × List MemPlace} (h : DataW.trod enc Tryd.prog w base sp held fuel 5 [c] = some y) : ∃ n, c = .int .u8 n ∧ 0 ≤ n ∧ n < 256 := by
  cases fuel with
  | zero => simp [DataW.trod] at h
  | succ fuel =>
    cases c <;> simp [DataW.trod, Tryd.underlying5] at h
    rename_i k' n
    obtain ⟨⟨rfl, hw⟩, rfl⟩ := h
    refine ⟨n, rfl, ?_⟩
    simp [Lit.wf, IntKind.min, IntKind.max, IntKind.signed, IntKind.bits] at hw
    omega
set_option maxRecDepth 100000 in
theorem open_manifest {r : Reach} {b0 : Nat} {v : Value} {d : DataW H} {p : List MemPlace} (hv : Value.okWide Tryd.prog w r b0 26 v) (h : DataW.Trod enc Tryd.prog w base sp held 26 v d p) :
    ∃ (e pl : Int) (A2 : Option Addr) (c2 : Nat) (l2 : List S78) (A3 : Option Addr) (c3 : Nat) (l3 : List Int), v = .agg #[.int .u64 e, .int .u8 pl, .slice A2 l2.length c2, .slice A3 l3.length c3] ∧
      (0 ≤ e ∧ e < 18446744073709551616) ∧ (0 ≤ pl ∧ pl < 256) ∧ Kd.C k78 w A2 l2.length l2 ∧ l2.length ≤ c2 ∧ Kd.C (Kd.int .u64) w A3 l3.length l3 ∧ l3.length ≤ c3 ∧
      (∀ x ∈ l2, 0 ≤ x.f0 ∧ x.f0 < 18446744073709551616 ∧ 0 ≤ x.f1 ∧ x.f1 < 18446744073709551616) ∧ ∀ x ∈ l3, 0 ≤ x ∧ x < 18446744073709551616 := by
  obtain ⟨v0, v1, v2, v3, y0, y1, y2, y3, n, rfl, _, _, h0, h1, h2, h3⟩ := Go.Joins.open_agg4 Tryd.underlying26 (by kernel_rfl) (by kernel_rfl) hv h
  obtain ⟨e, rfl, e0, e1⟩ := u64_of_trod h0
  obtain ⟨pl, rfl, p0, p1⟩ := u8_of_trod h1
  obtain ⟨A2, c2, l2, rfl, q2, r2, s2⟩ := open_parts h2
  obtain ⟨A3, c3, l3, rfl, q3, r3, s3⟩ := open_u64s h3
  exact ⟨e, pl, A2, c2, l2, A3, c3, l3, rfl, ⟨e0, e1⟩, ⟨p0, p1⟩, r2, q2, r3, q3, s2, s3⟩
end
end Go.Proofs.YtnhjhaphfdlkfaaDoor.LaidAt
