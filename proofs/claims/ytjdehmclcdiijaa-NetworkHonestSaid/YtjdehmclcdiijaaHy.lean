/- The copies that were taken, as a row of the call's own, beside the network. -/
import Derived.Test.YtjdehmclcdiijaaHz
import Derived.Test.YtjdehmclcdiijaaRr
set_option linter.unusedVariables false
namespace Go.Proofs.Ytjdehmclcdiijaa.Hp
open Go.RowKit Go.Proofs.YtjdehmclcdiijaaW.PrintWords Go.Proofs.YtjdehmclcdiijaaW.PrintLast Go.Proofs.YtjdehmclcdiijaaW.PrintMore

def flat3 : List Cp → List Value
  | [] => []
  | c :: l => .int .i64 c.way :: .string c.bytes :: .int .u64 c.due :: flat3 l
def c0 : Cp := ⟨0, .empty, 0⟩
theorem flat3_len : ∀ l : List Cp, (flat3 l).length = l.length * 3
  | [] => rfl
  | d :: l => by simp [flat3, flat3_len l]; omega
theorem flat3_at : ∀ (l : List Cp) (i : Nat), i < l.length → (flat3 l)[i * 3]? = some (.int .i64 (l.getD i c0).way) ∧ (flat3 l)[i * 3 + 1]? = some (.string (l.getD i c0).bytes) ∧ (flat3 l)[i * 3 + 2]? = some (.int .u64 (l.getD i c0).due)
  | [], i, h => by simp at h
  | d :: l, 0, h => by simp [flat3]
  | d :: l, i + 1, h => by
    have := flat3_at l i (by simpa using h)
    rw [show (i + 1) * 3 = i * 3 + 3 by omega]
    simpa [flat3] using this
theorem flat3_append : ∀ (l k : List Cp), flat3 (l ++ k) = flat3 l ++ flat3 k
  | [], k => rfl
  | d :: l, k => by simp [flat3, flat3_append l k]
theorem flat3_ones : ∀ (l : List Cp), ∀ u ∈ flat3 l, u.oneCell' = true
  | [], u, h => by simp [flat3] at h
  | d :: l, u, h => by
    simp only [flat3, List.mem_cons] at h
    rcases h with rfl | rfl | rfl | h
    · rfl
    · rfl
    · rfl
    · exact flat3_ones l u h
theorem flat3_drop : ∀ (l : List Cp) (k : Nat), (flat3 l).drop (k * 3) = flat3 (l.drop k)
  | l, 0 => by simp
  | [], k + 1 => by simp [flat3]
  | d :: l, k + 1 => by
    rw [show (k + 1) * 3 = k * 3 + 1 + 1 + 1 by omega]
    simp only [flat3, List.drop_succ_cons]
    exact flat3_drop l k
theorem flat3_one (c : Cp) : flat3 [c] = [.int .i64 c.way, .string c.bytes, .int .u64 c.due] := rfl
theorem info41 : (Try.prog.info? 41).map (fun i => (i.zero, i.size, i.bytes)) = some (some (.agg #[.int .i64 0, .string { data := #[] }, .int .u64 0]), 3, 32) := by kernel_rfl

/-- The network, and beside it the copies. -/
structure Hon (w : World) (base g : Nat) (a : AN) (F : Nat → Prop) (v : Value) (out : List Cp) : Prop where
  n : IsA w base g a F
  row : w.ownsRow base 41 3 v out.length (flat3 out)
  apart : ∀ k, v.ownBlock = some k → ¬ F k
theorem own_kept41 {w w' : World} {base n : Nat} {v : Value} {xs : List Value} {S : Nat → Prop} (h : w.ownsRow base 41 3 v n xs) (hk : Kept w w' S) (hn : ∀ k, v.ownBlock = some k → ¬ S k) : w'.ownsRow base 41 3 v n xs := by
  refine ⟨h.1, ?_⟩
  rcases h.2 with h1 | ⟨b, cap, cur, rfl, h1, h2, h3⟩
  · exact Or.inl h1
  · exact Or.inr ⟨b, cap, cur, rfl, h1, blk_kept h2 hk (hn b rfl), h3⟩
theorem hon_keep {w w' : World} {base g : Nat} {a : AN} {F : Nat → Prop} {v : Value} {out : List Cp} (h : Hon w base g a F v out) (k : Kept w w' (fun _ => False)) : Hon w' base g a F v out :=
  ⟨isa_kept h.n k (fun _ _ hf => hf), own_kept41 h.row k (fun _ _ hf => hf), h.apart⟩
theorem hon_did {w w' : World} {base g : Nat} {a a' : AN} {F : Nat → Prop} {v : Value} {out : List Cp} (h : Hon w base g a F v out) (k : DidA w w' base g a' F) : (∃ F', Hon w' base g a' F' v out) ∧ Below base w w' := by
  obtain ⟨F', k1, k2, k3, k4⟩ := k
  refine ⟨⟨F', k1, own_kept41 h.row k3 h.apart, fun i hi hf => ?_⟩, k4⟩
  rcases k2 i hf with hg | hg
  · exact h.apart i hi hg
  · have := (h.row.lt i hi).2; omega
/-- The copies' slice is another one: out of an append of the call's own. -/
theorem hon_grown {w w1 : World} {base g : Nat} {a : AN} {F : Nat → Prop} {v v1 : Value} {out out1 : List Cp} (h : Hon w base g a F v out) (hown : w1.ownsRow base 41 3 v1 out1.length (flat3 out1)) (hg : w.grownBy w1 v.ownBlock)
    (hat : ∀ k, v1.ownBlock = some k → v.ownBlock = some k ∨ w.heap.size ≤ k) : Hon w1 base g a F v1 out1 := by
  have hk : Kept w w1 (fun k => v.ownBlock = some k) := Kept.of_grown hg (Kept.refl _ _) (fun k hk => Or.inl hk)
  refine ⟨isa_kept h.n hk (fun i hi e => h.apart i e hi), hown, fun i hi hf => ?_⟩
  rcases hat i hi with e | e
  · exact h.apart i e hf
  · have := ((isa_foot h.n).2 i hf).2; omega
theorem hon_cells {w : World} {base g : Nat} {a : AN} {F : Nat → Prop} {v : Value} {out : List Cp} (h : Hon w base g a F v out) (h0 : 0 < out.length) :
    ∃ b cap, v = .slice (some ⟨b, 0, none⟩) out.length cap ∧ out.length ≤ cap ∧ ∀ i, i < out.length → w.cell? ⟨b, i * 3, none⟩ = some (.int .i64 (out.getD i c0).way) ∧ w.cell? ⟨b, i * 3 + 1, none⟩ = some (.string (out.getD i c0).bytes) ∧ w.cell? ⟨b, i * 3 + 2, none⟩ = some (.int .u64 (out.getD i c0).due) := by
  have h1 := h.row
  rcases h1.2 with ⟨_, hn⟩ | ⟨b, cap, cur, hv, hb, hh, hc, hm, hs, ht⟩
  · omega
  · rw [hv] at h1
    refine ⟨b, cap, hv, hc, fun i hi => ?_⟩
    have hf := flat3_at out i hi
    exact ⟨(h1.cellAt _ (by omega)).trans hf.1, (h1.cellAt _ (by omega)).trans hf.2.1, (h1.cellAt _ (by omega)).trans hf.2.2⟩
end Go.Proofs.Ytjdehmclcdiijaa.Hp
