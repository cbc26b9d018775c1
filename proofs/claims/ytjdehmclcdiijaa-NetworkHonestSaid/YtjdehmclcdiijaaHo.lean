/- Acts that came in, opened. -/
import Derived.Test.YtjdehmclcdiijaaHn
import Derived.Deep.SlicePairs
import Derived.Lib.SmallJoins
import Derived.Below
set_option linter.unusedVariables false
namespace Go.Proofs.Ytjdehmclcdiijaa.Hp
open Go.ChangeShapes Go.WideShapes Go.ChangeAt Go.RowKit Go.Proofs.YtjdehmclcdiijaaW.PrintWords Go.Proofs.YtjdehmclcdiijaaW.PrintLast Go.Proofs.YtjdehmclcdiijaaW.PrintMore Go.Proofs.Ytjdehmclcdiijaa.PNetworkApart
section
variable {H : Type} {enc : TypeId × Value → H} {w : World} {base : Nat} {sp : Nat → Bool} {held : Bool}
theorem u8_of_trod {fuel : Nat} {c : Value} {y : DataW H × List MemPlace} (h : DataW.trod enc Try.prog w base sp held fuel 5 [c] = some y) : ∃ n, c = .int .u8 n ∧ 0 ≤ n ∧ n < 256 := by
  cases fuel with
  | zero => simp [DataW.trod] at h
  | succ fuel =>
    cases c <;> simp [DataW.trod, Try.underlying5] at h
    rename_i k' n
    obtain ⟨⟨rfl, hw⟩, rfl⟩ := h
    refine ⟨n, rfl, ?_⟩
    simp [Lit.wf, IntKind.min, IntKind.max, IntKind.signed, IntKind.bits] at hw
    omega
theorem i64_of_trod {fuel : Nat} {c : Value} {y : DataW H × List MemPlace} (h : DataW.trod enc Try.prog w base sp held fuel 3 [c] = some y) : ∃ n, c = .int .i64 n := by
  cases fuel with
  | zero => simp [DataW.trod] at h
  | succ fuel =>
    cases c <;> simp [DataW.trod, Try.underlying3] at h
    rename_i k' n
    obtain ⟨⟨rfl, hw⟩, rfl⟩ := h
    exact ⟨n, rfl⟩
theorem str_of_trod {fuel : Nat} {c : Value} {y : DataW H × List MemPlace} (h : DataW.trod enc Try.prog w base sp held fuel 9 [c] = some y) : ∃ s, c = .string s := by
  cases fuel with
  | zero => simp [DataW.trod] at h
  | succ fuel =>
    cases c <;> simp [DataW.trod, Try.underlying9] at h
    exact ⟨_, rfl⟩
def okAct (x : S30) : Prop := 0 ≤ x.f0 ∧ x.f0 < 256 ∧ 0 ≤ x.f3.f0 ∧ x.f3.f0 < 256 ∧ 0 ≤ x.f3.f1 ∧ x.f3.f1 < 256
set_option maxRecDepth 100000 in
theorem open_act {fuel : Nat} {cs : List Value} {x : DataW H × List MemPlace} (hl : cs.length = 5) (h : DataW.trod enc Try.prog w base sp held fuel 30 cs = some x) :
    ∃ q : S30, cs = [.int .u8 q.f0, .int .i64 q.f1, .string q.f2, .int .u8 q.f3.f0, .int .u8 q.f3.f1] ∧ okAct q := by
  obtain ⟨xs, k, hk, hxy, _, hxl, hf⟩ := DataW.trod_struct Try.underlying30 h
  match xs, hxl, cs, hl with
  | [y0, y1, y2, y3], _, [v0, v1, v2, v3, v4], _ =>
    have g0 := hf 0 _ rfl
    have g1 := hf 1 _ rfl
    have g2 := hf 2 _ rfl
    have g3 := hf 3 _ rfl
    have c5 : Try.prog.cellsOf 5 = 1 := by kernel_rfl
    have c3 : Try.prog.cellsOf 3 = 1 := by kernel_rfl
    have c9 : Try.prog.cellsOf 9 = 1 := by kernel_rfl
    have c28 : Try.prog.cellsOf 28 = 2 := by kernel_rfl
    simp [c5] at g0
    simp [c3] at g1
    simp [c9] at g2
    simp [c28] at g3
    obtain ⟨n0, rfl, a0, b0⟩ := u8_of_trod g0
    obtain ⟨n1, rfl⟩ := i64_of_trod g1
    obtain ⟨s2, rfl⟩ := str_of_trod g2
    obtain ⟨zs, k2, hk2, hxy2, _, hxl2, hf2⟩ := DataW.trod_struct Try.underlying28 g3
    match zs, hxl2 with
    | [z0, z1], _ =>
      have f0 := hf2 0 _ rfl
      have f1 := hf2 1 _ rfl
      simp [c5] at f0 f1
      obtain ⟨n3, rfl, a3, b3⟩ := u8_of_trod f0
      obtain ⟨n4, rfl, a4, b4⟩ := u8_of_trod f1
      exact ⟨⟨n0, n1, s2, ⟨n3, n4⟩⟩, rfl, a0, b0, a3, b3, a4, b4⟩
theorem open_acts {fuel : Nat} {c : Value} {x : DataW H × List MemPlace} (h : DataW.trod enc Try.prog w base sp held fuel 22 [c] = some x) :
    ∃ (A : Option Addr) (cap : Nat) (l : List S30), c = .slice A l.length cap ∧ l.length ≤ cap ∧ Kd.C k30 w A l.length l ∧ ∀ x ∈ l, okAct x := by
  rcases Go.Deep.open_slice Try.underlying22 h with ⟨hc, _⟩ | ⟨a, len, cap, m, n, D, Pl, hc, _, hl, hm, hmm, _, hx⟩
  · simp at hc
    subst hc
    exact ⟨none, 0, [], rfl, Nat.le_refl _, ⟨rfl, by decide, fun h => by simp at h⟩, fun x hx => by simp at hx⟩
  · simp at hc
    subst hc
    have ce : Try.prog.cellsOf 30 = 5 := by kernel_rfl
    have hlm : len ≤ m := by rw [hmm]; split <;> omega
    have each : ∀ i, i < len → ∃ q : S30, (∀ j u, [Value.int .u8 q.f0, .int .i64 q.f1, .string q.f2, .int .u8 q.f3.f0, .int .u8 q.f3.f1][j]? = some u → w.cell? (a.add (i * 5 + j)) = some u) ∧ okAct q := by
      intro i hi
      obtain ⟨cs', h1, h2⟩ := hx i (by omega)
      rw [ce] at h1
      obtain ⟨_, hlen, hcell⟩ := World.cells?_some h1
      obtain ⟨q, rfl, hq⟩ := open_act (by simpa using hlen) h2
      refine ⟨q, fun j u hu => ?_, hq⟩
      have hj : j < 5 := by
        have := (List.getElem?_eq_some_iff.1 hu).1
        simpa using this
      have := hcell j hj
      rw [add_add] at this
      rw [this]
      exact hu
    have : Inhabited S30 := ⟨z30⟩
    obtain ⟨q, hq⟩ := Go.Deep.choose_lt each
    have hlen : ((List.range len).map q).length = len := by simp
    refine ⟨some a, cap, (List.range len).map q, by rw [hlen], by rw [hlen]; exact hl, ⟨rfl, ?_, fun _ => ⟨a, rfl, fun j p hj => ?_⟩⟩, ?_⟩
    · rw [hlen]; unfold maxLen at hm; omega
    · have hjl : j < len := by
        have := (List.getElem?_eq_some_iff.1 hj).1
        simpa using this
      have hp : q j = p := by
        rw [List.getElem?_map, List.getElem?_range hjl] at hj
        simpa using hj
      subst hp
      exact ⟨[.int .u8 (q j).f0, .int .i64 (q j).f1, .string (q j).f2, .int .u8 (q j).f3.f0, .int .u8 (q j).f3.f1], rfl, ⟨_, _, rfl, rfl, ⟨_, _, rfl, rfl, ⟨_, _, rfl, rfl, ⟨_, _, rfl, rfl, rfl⟩⟩⟩⟩, (hq j hjl).1⟩
    · intro x hx'
      obtain ⟨j, hj, rfl⟩ := List.mem_map.1 hx'
      exact (hq j (List.mem_range.1 hj)).2
end
end Go.Proofs.Ytjdehmclcdiijaa.Hp
