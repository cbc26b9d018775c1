/- NetworkHonest: further lemmas for the walk. -/
import Derived.Test.YtjdehmclcdiijaaHu
import Derived.Test.YtjdehmclcdiijaaHn
import Derived.Lib.SlicesS
set_option linter.unusedVariables false
namespace Go.Proofs.Ytjdehmclcdiijaa.Hp
open Go.RowKit Go.Proofs.YtjdehmclcdiijaaW.PrintWords Go.Proofs.YtjdehmclcdiijaaW.PrintLast Go.Proofs.YtjdehmclcdiijaaW.PrintMore

theorem hon_drewN {w : World} {base g : Nat} {a : AN} {F : Nat → Prop} {v : Value} {out : List Cp} (h : Hon w base g a F v out) (n : Nat) : Hon (w.drewN n) base g a F v out := ⟨h.n, h.row, h.apart⟩
theorem hon_drew {w : World} {base g : Nat} {a : AN} {F : Nat → Prop} {v : Value} {out : List Cp} (h : Hon w base g a F v out) : Hon w.drew base g a F v out := ⟨h.n, h.row, h.apart⟩
theorem hon_alloc {w : World} {base g : Nat} {a : AN} {F : Nat → Prop} {v : Value} {out : List Cp} (h : Hon w base g a F v out) (ob : Obj) : Hon (w.alloc ob) base g a F v out := hon_keep h ((Kept.refl w (fun _ => False)).alloc ob)
/-- The copies' slice is made anew, by two appends. -/
theorem hon_fresh {w w5 w6 : World} {base g : Nat} {a : AN} {F : Nat → Prop} {v v5 v6 : Value} {out out6 : List Cp} (h : Hon w base g a F v out)
    (hg5 : w.grownBy w5 (Value.slice none 0 0).ownBlock) (hat5 : v5.ownBlock = (Value.slice none 0 0).ownBlock ∨ ∃ b, v5.ownBlock = some b ∧ w.heap.size ≤ b)
    (hg6 : w5.grownBy w6 v5.ownBlock) (hat6 : v6.ownBlock = v5.ownBlock ∨ ∃ b, v6.ownBlock = some b ∧ w5.heap.size ≤ b)
    (hown : w6.ownsRow base 41 3 v6 out6.length (flat3 out6)) : Hon w6 base g a F v6 out6 := by
  have h5 : ∀ k, v5.ownBlock = some k → w.heap.size ≤ k := by
    intro k hk
    rcases hat5 with e | ⟨b, e, hb⟩
    · rw [e] at hk; simp [Value.ownBlock] at hk
    · rw [e] at hk; cases hk; exact hb
  have k5 : Kept w w5 (fun _ => False) := Kept.of_grown hg5 (Kept.refl _ _) (fun k hk => by simp [Value.ownBlock] at hk)
  have k6 : Kept w w6 (fun _ => False) := Kept.of_grown hg6 k5 (fun k hk => Or.inr (h5 k hk))
  refine ⟨isa_kept h.n k6 (fun _ _ hf => hf), hown, fun k hk hf => ?_⟩
  have hlt := ((isa_foot h.n).2 k hf).2
  rcases hat6 with e | ⟨b, e, hb⟩
  · rw [e] at hk; have := h5 k hk; omega
  · rw [e] at hk; cases hk; have := k5.1; omega
theorem noted_succ (a : AN) (o : Nat) (bytes : ByteArray) (d : Int) (t : Nat) : noted a o bytes d (t + 1) = noted a o bytes d t ++ [⟨(o : Int), bytes, a.now + d % 8 + (t : Int)⟩] := by unfold noted; rw [List.range_succ, List.map_append]; rfl
theorem noted_zero (a : AN) (o : Nat) (bytes : ByteArray) (d : Int) : noted a o bytes d 0 = [] := rfl
theorem noted_len (a : AN) (o : Nat) (bytes : ByteArray) (d : Int) (t : Nat) : (noted a o bytes d t).length = t := by simp [noted]
/-- Send, of a text that may be sent. -/
theorem h_sent {out : List Cp} {a : AN} {sl : Int} (h : Inv out a sl) (hsl : sl ≤ 10) (o : Nat) (ho : o < 2) (bytes : ByteArray) (hl : bytes.size ≤ 4102) (c d : Int) :
    ∃ t : Nat, aSendK a o bytes c d = t ∧ (t : Int) ≤ c % 4 ∧ aSendE bytes = 0 ∧ Inv (out ++ noted a o bytes d t) (aSend a o bytes c d) 10 ∧ (aSend a o bytes c d).now = a.now := by
  obtain ⟨t, h1, h2, h3, h4⟩ := inv_send h hsl o ho bytes c d
  unfold aSendK aSendE aSend
  rw [if_pos hl, if_pos hl, if_pos hl]
  exact ⟨t, h1, h2, rfl, h3, h4⟩
theorem h_sent_not {a : AN} {o : Nat} {bytes : ByteArray} (hl : ¬ bytes.size ≤ 4102) (c d : Int) : aSendK a o bytes c d = 0 ∧ aSendE bytes = 3 ∧ aSend a o bytes c d = a := by
  unfold aSendK aSendE aSend
  rw [if_neg hl, if_neg hl, if_neg hl]
  exact ⟨rfl, rfl, rfl⟩
theorem asendTo_most (a : AN) (o : Nat) (bytes : ByteArray) (d : Int) : ∀ k : Nat, (asendTo a o bytes d k).1.most = a.most
  | 0 => rfl
  | k + 1 => by
    rw [asendTo]
    split
    · exact asendTo_most a o bytes d k
    · exact asendTo_most a o bytes d k
theorem aSend_most (a : AN) (o : Nat) (bytes : ByteArray) (c d : Int) : (aSend a o bytes c d).most = a.most := by
  unfold aSend asendS
  split
  · exact asendTo_most _ _ _ _ _
  · rfl
/-- What was found stays found. -/
theorem seek_stays {out : List Cp} {o : Int} {s : ByteArray} {T : Int} {j b : Nat} (h : seek out o s T j = b) : ∀ d, seek out o s T (j + d) = b
  | 0 => h
  | d + 1 => by
    rw [← Nat.add_assoc, seek, seek_stays h d, if_neg (by omega)]
/-- How many copies there are at most. -/
theorem inv_few {out : List Cp} {a : AN} {sl B : Int} (h : Inv out a sl) (hs : ASmall a B) : out.length ≤ 128 := by
  have h0 := hs.q 0 (by omega)
  have h1 := hs.q 1 (by omega)
  have hm := hs.most
  have := h.len
  omega
theorem due_eq {now d : Int} {j : Nat} (h0 : 0 ≤ now) (h1 : now ≤ 100000) (hd : 0 ≤ d) (hj : j ≤ 4) : IntKind.u64.wrap (IntKind.u64.wrap (now + IntKind.u64.wrap (d.tmod 8)) + IntKind.u64.wrap ↑j) = now + d % 8 + (j : Int) := by
  rw [Int.tmod_eq_emod_of_nonneg hd]
  have e1 : IntKind.u64.wrap (d % 8) = d % 8 := IntWalk.u64_in _ ⟨by omega, by omega⟩
  have e2 : IntKind.u64.wrap (now + d % 8) = now + d % 8 := IntWalk.u64_in _ ⟨by omega, by omega⟩
  have e3 : IntKind.u64.wrap ↑j = (j : Int) := IntWalk.u64_in _ ⟨by omega, by omega⟩
  rw [e1, e2, e3]
  exact IntWalk.u64_in _ ⟨by omega, by omega⟩
theorem ba_eq (s t : ByteArray) (h : s = t) : (s.toList == t.toList) = true := (Lib.bytes_beq_iff s t).2 h
theorem ba_ne (s t : ByteArray) (h : ¬ s = t) : (s.toList == t.toList) = false := (Lib.bytes_beq_false_iff s t).2 h
theorem addr_add3 (bk b j : Nat) : (⟨bk, 0, none⟩ : Addr).add ((b + 1) * 3 + j) = (⟨bk, (b + 1) * 3, none⟩ : Addr).add j := by unfold Addr.add; split <;> split <;> simp_all
theorem addr_blk (bk o j : Nat) : ((⟨bk, o, none⟩ : Addr).add j).block = bk := by unfold Addr.add; split <;> rfl
theorem xRec_most (a : AN) (o : Nat) : (arecv a o).most = a.most := rfl
end Go.Proofs.Ytjdehmclcdiijaa.Hp
