/- Plain laws on the document's reading of a manifest: it tells what the program's tells. -/
import Derived.Test.YtnhjhaphfdlkfaaDoorQPU
import Derived.Test.YtnhjhaphfdlkfaaDoorQPMr
import Derived.Test.YtnhjhaphfdlkfaaDoorQHMx12
import Derived.Test.YtnhjhaphfdlkfaaDoorQHMx13
set_option linter.unusedVariables false
namespace Go.Proofs.YtnhjhaphfdlkfaaDoor.PT
open Go.RowKit Go.Proofs.YtnhjhaphfdlkfaaDoor.HM Go.Proofs.YtnhjhaphfdlkfaaDoorW.PrintWords Go.Proofs.YtnhjhaphfdlkfaaDoorW.PrintLast Go.Proofs.YtnhjhaphfdlkfaaDoorW.PrintMore
open Go.Proofs.YtnhjhaphfdlkfaaDoor.PB Go.Proofs.YtnhjhaphfdlkfaaDoor.PM
/-! ### the document's next frame -/
theorem bt_bs (l : List UInt8) (i : Nat) (h : i < l.length) : bt (bs l) (i : Int) = ((l[i]).toNat : Int) := by
  rw [bt_nat (bs l) i (by rw [bs_size]; exact h)]
  simp [bs]
theorem two (l : List UInt8) (h : 6 ≤ l.length) : ((l[0]'(by omega)).toNat : Int) + 256 * ((l[1]'(by omega)).toNat : Int) = ((numN (l.take 2) : Nat) : Int) := by
  match l, h with
  | a :: b :: l, _ => simp [numN]
theorem pair_wrap (a b n : Nat) (ha : a < 256) (hb : b < 256) (h : (a : Int) + 256 * (b : Int) = (n : Int)) : wrap64 (wrap64 (a : Int) + wrap64 (256 * wrap64 (b : Int))) = (n : Int) := by
  rw [← h]; unfold wrap64; omega
/-- What stands behind the head, held against it. -/
theorem head_iff (l : List UInt8) (h6 : 6 ≤ l.length) (n : Nat) (hn : numN (l.take 2) = n) (hd : n ≤ l.length - 6) :
    (enc (headN (bs ((l.drop 6).take n))) = l.take 6) ↔ ¬ sumOf l n ≠ numN ((l.drop 2).take 4) := by
  have hp : ((l.drop 6).take n).length = n := by rw [List.length_take, List.length_drop]; omega
  have hl2 : (l.take 2).length = 2 := by rw [List.length_take]; omega
  have hl4 : ((l.drop 2).take 4).length = 4 := by rw [List.length_take, List.length_drop]; omega
  have t6 : l.take 6 = l.take 2 ++ (l.drop 2).take 4 := by rw [← List.take_add]
  have en2 := le_num (l.take 2)
  rw [hl2, hn] at en2
  have hsum : updN 0 (strOfNums (Wr.leBytes ((n : Nat) : Int) 2) ++ bs ((l.drop 6).take n)) = sumOf l n := by
    unfold sumOf
    rw [updN_append, str_bs, en2]
  have hu := updN_lt 0 (strOfNums (Wr.leBytes ((n : Nat) : Int) 2) ++ bs ((l.drop 6).take n)) (by decide)
  rw [hsum] at hu
  have he : enc (headN (bs ((l.drop 6).take n))) = l.take 2 ++ enc (Wr.leBytes ((sumOf l n : Nat) : Int) 4) := by
    unfold headN
    rw [bs_size, hp, hsum, enc_append, en2]
  rw [he, t6, List.append_cancel_left_eq, Decidable.not_not]
  generalize sumOf l n = c at hu ⊢
  constructor
  · intro h
    have := congrArg numN h
    rwa [num_le 4 c (by omega)] at this
  · intro h
    rw [h]
    have := le_num ((l.drop 2).take 4)
    rwa [hl4] at this
theorem ref_next_at (l : List UInt8) (hl : l.length ≤ 100000) (h6 : 6 ≤ l.length) (n : Nat) (hn : numN (l.take 2) = n) (nl : n < 65536) (X : Int) (hX : X = (n : Int)) (k : Nat) (hk : 60000 < k) :
    (if X > 4096 then (some ((⟨#[]⟩ : ByteArray), (0 : Int), (3 : Int))) else (if (wrap64 ((l.length : Int) - 6)) < X then (some ((⟨#[]⟩ : ByteArray), 0, 10)) else (if 6 ≤ (wrap64 (6 + X)) then (if (wrap64 (6 + X)) ≤ (l.length : Int) then ((hindcastref04_Put.f k ((bs l).extract 6 ((wrap64 (6 + X)) : Int).toNat)).bind fun bt311 => (if 0 ≤ 6 then (if 6 ≤ (bt311.1.size : Int) then (if 6 ≤ (l.length : Int) then (if (bt311.1.extract 0 6).toList = ((bs l).extract 0 6).toList then (some ((bs l).extract 6 ((wrap64 (6 + X)) : Int).toNat, wrap64 (6 + X), 0)) else (some ((⟨#[]⟩ : ByteArray), 0, 9))) else (none)) else (none)) else (none))) else (none)) else (none)))) =
    some (bs (if 4096 < n then ([], (0 : Int), (3 : Int)) else if (l.drop 6).length < n then ([], 0, 10) else if sumOf l n ≠ numN ((l.drop 2).take 4) then ([], 0, 9) else ((l.drop 6).take n, ((6 + n : Nat) : Int), 0)).1,
      (if 4096 < n then (([] : List UInt8), (0 : Int), (3 : Int)) else if (l.drop 6).length < n then ([], 0, 10) else if sumOf l n ≠ numN ((l.drop 2).take 4) then ([], 0, 9) else ((l.drop 6).take n, ((6 + n : Nat) : Int), 0)).2.1,
      (if 4096 < n then (([] : List UInt8), (0 : Int), (3 : Int)) else if (l.drop 6).length < n then ([], 0, 10) else if sumOf l n ≠ numN ((l.drop 2).take 4) then ([], 0, 9) else ((l.drop 6).take n, ((6 + n : Nat) : Int), 0)).2.2) := by
  subst hX
  have e6 : wrap64 ((l.length : Int) - 6) = ((l.length - 6 : Nat) : Int) := by unfold wrap64; omega
  have e7 : wrap64 (6 + (n : Int)) = ((6 + n : Nat) : Int) := by unfold wrap64; omega
  rw [e6, e7, List.length_drop]
  by_cases c1 : 4096 < n
  · rw [if_pos (by omega), if_pos c1]; rfl
  · rw [if_neg (by omega), if_neg c1]
    by_cases c2 : l.length - 6 < n
    · rw [if_pos (by omega), if_pos c2]; rfl
    · rw [if_neg (by omega), if_neg c2, if_pos (by omega), if_pos (by omega), Int.toNat_natCast, bs_extract]
      have ep : (l.take (6 + n)).drop 6 = (l.drop 6).take n := by rw [List.drop_take]; congr 1; omega
      rw [ep]
      have hp : ((l.drop 6).take n).length = n := by rw [List.length_take, List.length_drop]; omega
      have hi := head_iff l h6 n hn (by omega)
      have hh : (enc (headN (bs ((l.drop 6).take n)))).length = 6 := by
        rw [enc_len]; unfold headN; rw [List.length_append, Wr.leBytes_len, Wr.leBytes_len]
      rw [ref_put_f _ (by rw [bs_size, hp]; omega) k (by omega), Option.bind_some]
      dsimp only
      rw [frame_list]
      have x1 : ∀ z : List UInt8, (bs z).extract 0 6 = bs (z.take 6) := fun z => by rw [bs_extract, List.drop_zero]
      rw [if_pos (by decide), if_pos (by rw [bs_size, List.length_append, hh]; omega), if_pos (by omega), x1, x1, bs_toList, bs_toList, List.take_left' hh]
      by_cases c3 : sumOf l n ≠ numN ((l.drop 2).take 4)
      · rw [if_neg (fun h => (hi.1 h) c3), if_pos c3]; rfl
      · rw [if_pos (hi.2 c3), if_neg c3]
theorem ref_next (l : List UInt8) (hl : l.length ≤ 100000) (k : Nat) (hk : 60000 < k) : hindcastref04_Next.f k (bs l) = some (bs (nextN l).1, (nextN l).2.1, (nextN l).2.2) := by
  unfold hindcastref04_Next.f nextN
  rw [bs_size]
  by_cases h6 : l.length < 6
  · rw [if_pos (by omega), if_pos h6]; rfl
  · rw [if_neg (by omega), if_neg h6, if_pos (by omega), if_pos (by omega)]
    have b0 := bt_bs l 0 (by omega)
    have b1 := bt_bs l 1 (by omega)
    have h2 := two l (by omega)
    have n0 := (l[0]'(by omega)).toNat_lt
    have n1 := (l[1]'(by omega)).toNat_lt
    rw [show ((0 : Nat) : Int) = 0 from rfl] at b0
    rw [show ((1 : Nat) : Int) = 1 from rfl] at b1
    have e := pair_wrap _ _ _ n0 n1 h2
    rw [← b0, ← b1] at e
    have nl : numN (l.take 2) < 65536 := by
      have := numN_lt (l.take 2)
      rw [List.length_take, Nat.min_eq_left (by omega)] at this
      exact this
    exact ref_next_at l hl (by omega) (numN (l.take 2)) rfl nl _ e k hk
/-! ### the document's numbers -/
def num8 (p : List UInt8) (at_ : Nat) : Int := if at_ + 8 ≤ p.length then ((numN ((p.drop at_).take 8) : Nat) : Int) else 0
def byteN (p : List UInt8) (at_ : Nat) : Int := if h : at_ < p.length then (((p[at_]).toNat : Nat) : Int) else 0
theorem num8_bd (p : List UInt8) (a : Nat) : 0 ≤ num8 p a ∧ num8 p a < 18446744073709551616 := by
  unfold num8
  split
  · have := numN_lt ((p.drop a).take 8)
    have hl : ((p.drop a).take 8).length ≤ 8 := by rw [List.length_take]; omega
    have : numN ((p.drop a).take 8) < 256 ^ 8 := Nat.lt_of_lt_of_le this (Nat.pow_le_pow_right (by decide) hl)
    omega
  · omega
theorem byteN_bd (p : List UInt8) (a : Nat) : 0 ≤ byteN p a ∧ byteN p a < 256 := by
  unfold byteN
  split
  · rename_i h
    have := (p[a]).toNat_lt
    omega
  · omega
theorem small_f (p : List UInt8) (a : Nat) (hp : p.length ≤ 100000) : hindcastref17_small.f (bs p) (a : Int) = some (byteN p a) := by
  unfold hindcastref17_small.f byteN
  rw [bs_size]
  by_cases h : a < p.length
  · rw [if_neg (by omega), if_pos (by omega), if_pos (by omega), bt_bs p a h, dif_pos h]
    have := (p[a]).toNat_lt
    rw [show wrap64 ((p[a]).toNat : Int) = ((p[a]).toNat : Int) by unfold wrap64; omega]
  · rw [if_pos (by omega), dif_neg h]
theorem number_loop (p : List UInt8) (hp : p.length ≤ 100000) (a : Nat) (ha : a + 8 ≤ p.length) (d : Nat) : ∀ (k : Nat), d ≤ 8 → d < k →
    hindcastref17_number.l0 k (bs p) (a : Int) ((numN ((p.drop (a + d)).take (8 - d)) : Nat) : Int) ((d : Int) - 1) = some ((numN ((p.drop a).take 8) : Nat) : Int) := by
  induction d with
  | zero =>
    intro k hd hk
    obtain ⟨k, rfl⟩ : ∃ m, k = m + 1 := ⟨k - 1, by omega⟩
    simp only [hindcastref17_number.l0]
    rw [if_neg (by omega)]
    rfl
  | succ d ih =>
    intro k hd hk
    obtain ⟨k, rfl⟩ : ∃ m, k = m + 1 := ⟨k - 1, by omega⟩
    have hb := bt_bs p (a + d) (by omega)
    have e1 : wrap64 ((a : Int) + (((d + 1 : Nat) : Int) - 1)) = ((a + d : Nat) : Int) := by unfold wrap64; omega
    have e2 : wrap64 ((((d + 1 : Nat) : Int) - 1) - 1) = (d : Int) - 1 := by unfold wrap64; omega
    have hlt := numN_lt ((p.drop (a + (d + 1))).take (8 - (d + 1)))
    have hll : ((p.drop (a + (d + 1))).take (8 - (d + 1))).length = 7 - d := by rw [List.length_take, List.length_drop]; omega
    rw [hll] at hlt
    have hlt2 : numN ((p.drop (a + (d + 1))).take (8 - (d + 1))) < 256 ^ 7 := Nat.lt_of_lt_of_le hlt (Nat.pow_le_pow_right (by decide) (by omega))
    have hbb := (p[a + d]'(by omega)).toNat_lt
    have hcons : (p.drop (a + d)).take (8 - d) = (p[a + d]'(by omega)) :: (p.drop (a + (d + 1))).take (8 - (d + 1)) := by
      rw [List.drop_eq_getElem_cons (by omega), show 8 - d = (8 - (d + 1)) + 1 by omega, List.take_succ_cons]
      rfl
    simp only [hindcastref17_number.l0]
    rw [if_pos (by omega), e1, if_pos (by omega), if_pos (by rw [bs_size]; omega), hb, e2]
    have e3 : IntKind.u64.wrap (((numN ((p.drop (a + (d + 1))).take (8 - (d + 1))) : Nat) : Int) * 256) = ((numN ((p.drop (a + (d + 1))).take (8 - (d + 1))) : Nat) : Int) * 256 := IntWalk.u64_in _ ⟨by omega, by omega⟩
    have e4 : IntKind.u64.wrap ((p[a + d]'(by omega)).toNat : Int) = ((p[a + d]'(by omega)).toNat : Int) := IntWalk.u64_in _ ⟨by omega, by omega⟩
    have e5 : IntKind.u64.wrap (((numN ((p.drop (a + (d + 1))).take (8 - (d + 1))) : Nat) : Int) * 256 + ((p[a + d]'(by omega)).toNat : Int)) = ((numN ((p.drop (a + d)).take (8 - d)) : Nat) : Int) := by
      rw [hcons]
      simp only [numN]
      rw [IntWalk.u64_in _ ⟨by omega, by omega⟩]
      omega
    rw [e3, e4, e5]
    exact ih k (by omega) (by omega)
theorem number_f (p : List UInt8) (hp : p.length ≤ 100000) (a : Nat) (ha : a ≤ 100000) (k : Nat) (hk : 20 < k) : hindcastref17_number.f k (bs p) (a : Int) = some (num8 p a) := by
  unfold hindcastref17_number.f num8
  have e : wrap64 ((a : Int) + 8) = ((a + 8 : Nat) : Int) := by unfold wrap64; omega
  rw [e, bs_size]
  by_cases h : a + 8 ≤ p.length
  · rw [if_neg (by omega), if_pos h]
    have := number_loop p hp a h 8 k (by omega) (by omega)
    have z : (p.drop (a + 8)).take (8 - 8) = [] := by simp
    rw [z] at this
    exact this
  · rw [if_pos (by omega), if_neg h]
/-! ### the document's manifest -/
def partsR (p : List UInt8) : Nat → Nat → List S78
  | _, 0 => []
  | a, d + 1 => ⟨num8 p a, num8 p (a + 8)⟩ :: partsR p (a + 16) d
def wordsR (p : List UInt8) : Nat → Nat → List Int
  | _, 0 => []
  | a, d + 1 => num8 p a :: wordsR p (a + 8) d
theorem partsR_len (p : List UInt8) (d : Nat) : ∀ a, (partsR p a d).length = d := by
  induction d with
  | zero => exact fun a => rfl
  | succ d ih => intro a; simp [partsR, ih]
theorem wordsR_len (p : List UInt8) (d : Nat) : ∀ a, (wordsR p a d).length = d := by
  induction d with
  | zero => exact fun a => rfl
  | succ d ih => intro a; simp [wordsR, ih]
theorem partsR_bd (p : List UInt8) (d : Nat) : ∀ a, ∀ x ∈ partsR p a d, 0 ≤ x.f0 ∧ x.f0 < 18446744073709551616 ∧ 0 ≤ x.f1 ∧ x.f1 < 18446744073709551616 := by
  induction d with
  | zero => intro a x hx; simp [partsR] at hx
  | succ d ih =>
    intro a x hx
    rcases List.mem_cons.1 hx with rfl | hx
    · exact ⟨(num8_bd p a).1, (num8_bd p a).2, (num8_bd p _).1, (num8_bd p _).2⟩
    · exact ih _ x hx
theorem wordsR_bd (p : List UInt8) (d : Nat) : ∀ a, ∀ x ∈ wordsR p a d, 0 ≤ x ∧ x < 18446744073709551616 := by
  induction d with
  | zero => intro a x hx; simp [wordsR] at hx
  | succ d ih =>
    intro a x hx
    rcases List.mem_cons.1 hx with rfl | hx
    · exact num8_bd p a
    · exact ih _ x hx
theorem ref_l0 (x0 : ByteArray) (p : List UInt8) (hp : p.length ≤ 100000) (x5 e pl cnt : Int) (h0 : 0 ≤ cnt) (d : Nat) : ∀ (k i : Nat) (acc : List S78), i + d = lim 20 cnt → acc.length + d ≤ 100 → 20 < k →
    hindcastref17_Take.l0 (k + 2 * d) x0 (bs p) x5 cnt ((10 + 16 * i : Nat) : Int) (i : Int) e pl (acc.map cv) = hindcastref17_Take.l0 k x0 (bs p) x5 cnt ((10 + 16 * lim 20 cnt : Nat) : Int) ((lim 20 cnt : Nat) : Int) e pl ((acc ++ partsR p (10 + 16 * i) d).map cv) := by
  induction d with
  | zero =>
    intro k i acc hd ha hk
    have : i = lim 20 cnt := by omega
    subst this
    simp [partsR]
  | succ d ih =>
    intro k i acc hd ha hk
    have hlt : i < lim 20 cnt := by omega
    have h20 : lim 20 cnt ≤ 20 := Nat.min_le_right _ _
    have hc : ((lim 20 cnt : Nat) : Int) ≤ cnt := by unfold lim; omega
    have w1 : wrap64 (((10 + 16 * i : Nat) : Int) + 8) = ((10 + 16 * i + 8 : Nat) : Int) := by unfold wrap64; omega
    have w2 : wrap64 (((10 + 16 * i : Nat) : Int) + 16) = ((10 + 16 * (i + 1) : Nat) : Int) := by unfold wrap64; omega
    have w3 : wrap64 ((i : Int) + 1) = ((i + 1 : Nat) : Int) := by unfold wrap64; omega
    rw [show k + 2 * (d + 1) = (k + 2 * d + 1) + 1 by omega]
    conv => lhs; simp only [hindcastref17_Take.l0, hindcastref17_Take.j1]
    rw [if_pos (by omega), if_pos (by exact decide_eq_true (by omega)), number_f p hp _ (by omega) (k + 2 * d) (by omega), Option.bind_some, w1, number_f p hp _ (by omega) (k + 2 * d) (by omega), Option.bind_some, if_pos (by simp; omega), w2, w3]
    have := ih k (i + 1) (acc ++ [(⟨num8 p (10 + 16 * i), num8 p (10 + 16 * i + 8)⟩ : S78)]) (by omega) (by simp; omega) hk
    have em : acc.map cv ++ [(⟨num8 p (10 + 16 * i), num8 p (10 + 16 * i + 8)⟩ : S84)] = (acc ++ [(⟨num8 p (10 + 16 * i), num8 p (10 + 16 * i + 8)⟩ : S78)]).map cv := by simp [cv]
    rw [em, this]
    congr 2
    rw [List.append_assoc]
    simp [partsR, Nat.mul_add, Nat.add_assoc]
theorem ref_l0_end (x0 : ByteArray) (p : List UInt8) (x5 e pl cnt a : Int) (acc : List S84) (k : Nat) (h0 : 0 ≤ cnt) :
    hindcastref17_Take.l0 (k + 1) x0 (bs p) x5 cnt a ((lim 20 cnt : Nat) : Int) e pl acc = hindcastref17_Take.j1 k x0 (bs p) x5 cnt a ((lim 20 cnt : Nat) : Int) false e pl acc := by
  conv => lhs; simp only [hindcastref17_Take.l0]
  by_cases h : ((lim 20 cnt : Nat) : Int) < cnt
  · rw [if_pos h]
    have : decide (((lim 20 cnt : Nat) : Int) < 20) = false := decide_eq_false (by unfold lim at h ⊢; omega)
    rw [this]
  · rw [if_neg h]
theorem ref_l1 (x0 : ByteArray) (p : List UInt8) (hp : p.length ≤ 100000) (x5 e pl cnt : Int) (h0 : 0 ≤ cnt) (l2 : List S84) (b : Nat) (hb : b ≤ 1000) (d : Nat) : ∀ (k i : Nat) (acc : List Int), i + d = lim 20 cnt → acc.length + d ≤ 100 → 20 < k →
    hindcastref17_Take.l1 (k + 1 + d) x0 (bs p) x5 ((b + 8 * i : Nat) : Int) cnt (i : Int) e pl l2 acc = hindcastref17_Take.j3 k x0 (bs p) x5 e pl l2 (acc ++ wordsR p (b + 8 * i) d) := by
  induction d with
  | zero =>
    intro k i acc hd ha hk
    have : i = lim 20 cnt := by omega
    subst this
    rw [Nat.add_zero]
    conv => lhs; simp only [hindcastref17_Take.l1]
    have ew : acc ++ wordsR p (b + 8 * lim 20 cnt) 0 = acc := by simp [wordsR]
    rw [ew]
    by_cases h : ((lim 20 cnt : Nat) : Int) < cnt
    · rw [if_pos h, if_neg (by unfold lim at h ⊢; omega)]
    · rw [if_neg h]
  | succ d ih =>
    intro k i acc hd ha hk
    have hlt : i < lim 20 cnt := by omega
    have h20 : lim 20 cnt ≤ 20 := Nat.min_le_right _ _
    have hc : ((lim 20 cnt : Nat) : Int) ≤ cnt := by unfold lim; omega
    have w2 : wrap64 (((b + 8 * i : Nat) : Int) + 8) = ((b + 8 * (i + 1) : Nat) : Int) := by unfold wrap64; omega
    have w3 : wrap64 ((i : Int) + 1) = ((i + 1 : Nat) : Int) := by unfold wrap64; omega
    rw [show k + 1 + (d + 1) = (k + 1 + d) + 1 by omega]
    conv => lhs; simp only [hindcastref17_Take.l1]
    rw [if_pos (by omega), if_pos (by omega), number_f p hp _ (by omega) (k + 1 + d) (by omega), Option.bind_some, if_pos (by omega), w2, w3]
    rw [ih k (i + 1) (acc ++ [num8 p (b + 8 * i)]) (by omega) (by simp; omega) hk, List.append_assoc]
    simp [wordsR, Nat.mul_add, Nat.add_assoc]
/-- What the document reads. -/
def tellR (p : List UInt8) : Int × Int × List S78 × List Int :=
  (num8 p 0, byteN p 8, partsR p 10 (lim 20 (byteN p 9)), wordsR p (10 + 16 * lim 20 (byteN p 9) + 1) (lim 20 (byteN p (10 + 16 * lim 20 (byteN p 9)))))
def takeR (l : List UInt8) : Int × Int × List S78 × List Int × Int :=
  if (nextN l).2.2 = 0 then
    if (nextN l).2.1 = (l.length : Int) ∧ okB (tellR (nextN l).1).1 (tellR (nextN l).1).2.1 (tellR (nextN l).1).2.2.1 (tellR (nextN l).1).2.2.2 = true ∧ enc (payN (tellR (nextN l).1).1 (tellR (nextN l).1).2.1 (tellR (nextN l).1).2.2.1 (tellR (nextN l).1).2.2.2) = (nextN l).1 then
      ((tellR (nextN l).1).1, (tellR (nextN l).1).2.1, (tellR (nextN l).1).2.2.1, (tellR (nextN l).1).2.2.2, 0)
    else (0, 0, [], [], 4)
  else (0, 0, [], [], (nextN l).2.2)
theorem ref_j3 (l p : List UInt8) (used e pl : Int) (l2 : List S78) (l3 : List Int) (he : 0 ≤ e ∧ e < 18446744073709551616) (hp : 0 ≤ pl ∧ pl < 256) (ho : okNums l2 l3) (h2 : l2.length ≤ 20) (h3 : l3.length ≤ 20) (k : Nat) (hk : 300 < k) :
    hindcastref17_Take.j3 (k + 1) (bs l) (bs p) used e pl (l2.map cv) l3 = some (if used = (l.length : Int) ∧ okB e pl l2 l3 = true ∧ enc (payN e pl l2 l3) = p then (e, pl, l2.map cv, l3, 0) else (0, 0, [], [], 4)) := by
  simp only [hindcastref17_Take.j3]
  rw [bs_size]
  by_cases u : used = (l.length : Int)
  · rw [if_pos u, may_f e pl l2 l3 (fun x hx => ⟨(ho.1 x hx).1, (ho.1 x hx).2.2.1⟩) k (by omega), Option.bind_some]
    by_cases ok : okB e pl l2 l3 = true
    · rw [if_pos ok, payload_f e pl l2 l3 he hp ho (by omega) (by omega) k (by omega), Option.bind_some, str_bs, bs_toList, bs_toList]
      by_cases q : enc (payN e pl l2 l3) = p
      · rw [if_pos q, if_pos ⟨u, ok, q⟩]
      · rw [if_neg q, if_neg (fun h => q h.2.2)]
    · rw [if_neg ok, if_neg (fun h => ok h.2.1)]
  · rw [if_neg u, if_neg (fun h => u h.1)]
theorem ref_take (l : List UInt8) (hl : l.length ≤ 100000) (k : Nat) (hk : 101000 < k) : hindcastref17_Take.f k (bs l) = some ((takeR l).1, (takeR l).2.1, (takeR l).2.2.1.map cv, (takeR l).2.2.2.1, (takeR l).2.2.2.2) := by
  unfold hindcastref17_Take.f
  rw [ref_next l hl k (by omega), Option.bind_some]
  by_cases c : (nextN l).2.2 = 0
  · have hs := next_small l hl
    unfold takeR
    rw [if_pos c, if_pos c]
    generalize (nextN l).1 = p at hs ⊢
    generalize (nextN l).2.1 = used
    have q0 := number_f p hs 0 (by decide) k (by omega)
    have q8 := small_f p 8 hs
    have q9 := small_f p 9 hs
    have b8 := byteN_bd p 8
    have b9 := byteN_bd p 9
    rw [show ((0 : Nat) : Int) = 0 from rfl] at q0
    rw [show ((8 : Nat) : Int) = 8 from rfl] at q8
    rw [show ((9 : Nat) : Int) = 9 from rfl] at q9
    rw [q0, Option.bind_some, q8, Option.bind_some, q9, Option.bind_some, show byteN p 8 % 256 = byteN p 8 by omega]
    have h20 : lim 20 (byteN p 9) ≤ 20 := Nat.min_le_right _ _
    have b2 := byteN_bd p (10 + 16 * lim 20 (byteN p 9))
    have h20' : lim 20 (byteN p (10 + 16 * lim 20 (byteN p 9))) ≤ 20 := Nat.min_le_right _ _
    obtain ⟨k1, rfl⟩ : ∃ m, k = (m + 1 + lim 20 (byteN p (10 + 16 * lim 20 (byteN p 9))) + 1 + 1 + 1) + 2 * lim 20 (byteN p 9) := ⟨k - 4 - lim 20 (byteN p (10 + 16 * lim 20 (byteN p 9))) - 2 * lim 20 (byteN p 9), by omega⟩
    have L0 := ref_l0 (bs l) p hs used (num8 p 0) (byteN p 8) (byteN p 9) b9.1 (lim 20 (byteN p 9)) (k1 + 1 + lim 20 (byteN p (10 + 16 * lim 20 (byteN p 9))) + 1 + 1 + 1) 0 [] (by omega) (by simp; omega) (by omega)
    rw [show ((10 + 16 * 0 : Nat) : Int) = 10 from rfl, show ((0 : Nat) : Int) = 0 from rfl, List.map_nil] at L0
    rw [L0, ref_l0_end _ _ _ _ _ _ _ _ _ b9.1]
    conv => lhs; simp only [hindcastref17_Take.j1]
    rw [if_neg (by decide), small_f p _ hs, Option.bind_some]
    have w1 : wrap64 (((10 + 16 * lim 20 (byteN p 9) : Nat) : Int) + 1) = ((10 + 16 * lim 20 (byteN p 9) + 1 + 8 * 0 : Nat) : Int) := by unfold wrap64; omega
    rw [w1]
    have L1 := ref_l1 (bs l) p hs used (num8 p 0) (byteN p 8) (byteN p (10 + 16 * lim 20 (byteN p 9))) b2.1 (([] ++ partsR p (10 + 16 * 0) (lim 20 (byteN p 9))).map cv) (10 + 16 * lim 20 (byteN p 9) + 1) (by omega) (lim 20 (byteN p (10 + 16 * lim 20 (byteN p 9)))) (k1 + 1) 0 [] (by omega) (by simp; omega) (by omega)
    rw [show ((0 : Nat) : Int) = 0 from rfl] at L1
    rw [show k1 + 1 + lim 20 (byteN p (10 + 16 * lim 20 (byteN p 9))) + 1 = k1 + 1 + 1 + lim 20 (byteN p (10 + 16 * lim 20 (byteN p 9))) by omega, L1, List.nil_append, List.nil_append]
    rw [ref_j3 l p used (num8 p 0) (byteN p 8) _ _ (num8_bd p 0) b8 ⟨partsR_bd p _ _, wordsR_bd p _ _⟩ (by rw [partsR_len]; omega) (by rw [wordsR_len]; omega) k1 (by omega)]
    unfold tellR
    dsimp only
    simp only [Nat.mul_zero, Nat.add_zero]
    split <;> rfl
  · unfold takeR
    rw [if_neg c, if_neg c]
    rfl
/-! ### both read the same -/
theorem num8_at (pre : List UInt8) (n : Int) (h : 0 ≤ n ∧ n < 18446744073709551616) (R : List UInt8) (a : Nat) (ha : a = pre.length) : num8 (pre ++ (enc (Wr.leBytes n 8) ++ R)) a = n := by
  subst ha
  have hl := enc_le_len n 8
  unfold num8
  rw [if_pos (by rw [List.length_append, List.length_append, hl]; omega), List.drop_left, List.take_left' hl]
  obtain ⟨m, rfl⟩ := Int.eq_ofNat_of_zero_le h.1
  rw [num_le 8 m (by omega)]
theorem byteN_at (pre : List UInt8) (n : Int) (h0 : 0 ≤ n) (h1 : n < 256) (R : List UInt8) (a : Nat) (ha : a = pre.length) : byteN (pre ++ (enc (Wr.leBytes n 1) ++ R)) a = n := by
  subst ha
  rw [le1 n h0 h1]
  unfold byteN
  rw [dif_pos (by simp [enc])]
  have : (pre ++ (enc [n] ++ R))[pre.length]'(by simp [enc]) = UInt8.ofNat n.toNat := by simp [enc]
  rw [this]
  have : (UInt8.ofNat n.toNat).toNat = n.toNat := by simp; omega
  rw [this]; omega
theorem partsR_at (l2 : List S78) (ho : ∀ x ∈ l2, 0 ≤ x.f0 ∧ x.f0 < 18446744073709551616 ∧ 0 ≤ x.f1 ∧ x.f1 < 18446744073709551616) : ∀ (pre R : List UInt8) (a : Nat), a = pre.length → partsR (pre ++ (enc (payS l2) ++ R)) a l2.length = l2 := by
  induction l2 with
  | nil => intro pre R a ha; rfl
  | cons x l2 ih =>
    intro pre R a ha
    obtain ⟨a0, b0, c0, d0⟩ := ho x List.mem_cons_self
    have e1 : pre ++ (enc (payS (x :: l2)) ++ R) = pre ++ (enc (Wr.leBytes x.f0 8) ++ (enc (Wr.leBytes x.f1 8) ++ (enc (payS l2) ++ R))) := by simp [payS, enc_append]
    have e2 : pre ++ (enc (payS (x :: l2)) ++ R) = (pre ++ enc (Wr.leBytes x.f0 8)) ++ (enc (Wr.leBytes x.f1 8) ++ (enc (payS l2) ++ R)) := by simp [payS, enc_append]
    have e3 : pre ++ (enc (payS (x :: l2)) ++ R) = (pre ++ enc (Wr.leBytes x.f0 8) ++ enc (Wr.leBytes x.f1 8)) ++ (enc (payS l2) ++ R) := by simp [payS, enc_append]
    have n0 : num8 (pre ++ (enc (payS (x :: l2)) ++ R)) a = x.f0 := by rw [e1]; exact num8_at pre x.f0 ⟨a0, b0⟩ _ a ha
    have n1 : num8 (pre ++ (enc (payS (x :: l2)) ++ R)) (a + 8) = x.f1 := by rw [e2]; exact num8_at _ x.f1 ⟨c0, d0⟩ _ _ (by rw [List.length_append, enc_le_len]; omega)
    have n2 : partsR (pre ++ (enc (payS (x :: l2)) ++ R)) (a + 16) l2.length = l2 := by
      rw [e3]
      exact ih (fun y hy => ho y (List.mem_cons_of_mem _ hy)) _ R (a + 16) (by rw [List.length_append, List.length_append, enc_le_len, enc_le_len]; omega)
    show ⟨num8 _ a, num8 _ (a + 8)⟩ :: partsR _ (a + 16) l2.length = x :: l2
    rw [n0, n1, n2]
theorem wordsR_at (l3 : List Int) (ho : ∀ x ∈ l3, 0 ≤ x ∧ x < 18446744073709551616) : ∀ (pre R : List UInt8) (a : Nat), a = pre.length → wordsR (pre ++ (enc (payC l3) ++ R)) a l3.length = l3 := by
  induction l3 with
  | nil => intro pre R a ha; rfl
  | cons x l3 ih =>
    intro pre R a ha
    have e1 : pre ++ (enc (payC (x :: l3)) ++ R) = pre ++ (enc (Wr.leBytes x 8) ++ (enc (payC l3) ++ R)) := by simp [payC, enc_append]
    have e3 : pre ++ (enc (payC (x :: l3)) ++ R) = (pre ++ enc (Wr.leBytes x 8)) ++ (enc (payC l3) ++ R) := by simp [payC, enc_append]
    have n0 : num8 (pre ++ (enc (payC (x :: l3)) ++ R)) a = x := by rw [e1]; exact num8_at pre x (ho x List.mem_cons_self) _ a ha
    have n2 : wordsR (pre ++ (enc (payC (x :: l3)) ++ R)) (a + 8) l3.length = l3 := by
      rw [e3]
      exact ih (fun y hy => ho y (List.mem_cons_of_mem _ hy)) _ R (a + 8) (by rw [List.length_append, enc_le_len]; omega)
    show num8 _ a :: wordsR _ (a + 8) l3.length = x :: l3
    rw [n0, n2]
theorem tellR_pay (e pl : Int) (l2 : List S78) (l3 : List Int) (he : 0 ≤ e ∧ e < 18446744073709551616) (hp : 0 ≤ pl ∧ pl < 256) (ho : okNums l2 l3) (h2 : l2.length ≤ 12) (h3 : l3.length ≤ 2) :
    tellR (enc (payN e pl l2 l3)) = (e, pl, l2, l3) := by
  have c2 : lim 20 (l2.length : Int) = l2.length := by unfold lim; omega
  have c3 : lim 20 (l3.length : Int) = l3.length := by unfold lim; omega
  have A : (enc (Wr.leBytes e 8)).length = 8 := enc_le_len _ _
  have B : (enc (Wr.leBytes pl 1)).length = 1 := enc_le_len _ _
  have C : (enc (Wr.leBytes (l2.length : Int) 1)).length = 1 := enc_le_len _ _
  have D : (enc (payS l2)).length = 16 * l2.length := by rw [enc_len, payS_len]
  have F : (enc (Wr.leBytes (l3.length : Int) 1)).length = 1 := enc_le_len _ _
  have E0 : enc (payN e pl l2 l3) = [] ++ (enc (Wr.leBytes e 8) ++ (enc (Wr.leBytes pl 1) ++ (enc (Wr.leBytes (l2.length : Int) 1) ++ (enc (payS l2) ++ (enc (Wr.leBytes (l3.length : Int) 1) ++ (enc (payC l3) ++ [])))))) := by
    unfold payN; simp [enc_append]
  have E1 : enc (payN e pl l2 l3) = enc (Wr.leBytes e 8) ++ (enc (Wr.leBytes pl 1) ++ (enc (Wr.leBytes (l2.length : Int) 1) ++ (enc (payS l2) ++ (enc (Wr.leBytes (l3.length : Int) 1) ++ (enc (payC l3) ++ []))))) := by
    unfold payN; simp [enc_append]
  have E2 : enc (payN e pl l2 l3) = (enc (Wr.leBytes e 8) ++ enc (Wr.leBytes pl 1)) ++ (enc (Wr.leBytes (l2.length : Int) 1) ++ (enc (payS l2) ++ (enc (Wr.leBytes (l3.length : Int) 1) ++ (enc (payC l3) ++ [])))) := by
    unfold payN; simp [enc_append]
  have E3 : enc (payN e pl l2 l3) = (enc (Wr.leBytes e 8) ++ enc (Wr.leBytes pl 1) ++ enc (Wr.leBytes (l2.length : Int) 1)) ++ (enc (payS l2) ++ (enc (Wr.leBytes (l3.length : Int) 1) ++ (enc (payC l3) ++ []))) := by
    unfold payN; simp [enc_append]
  have E4 : enc (payN e pl l2 l3) = (enc (Wr.leBytes e 8) ++ enc (Wr.leBytes pl 1) ++ enc (Wr.leBytes (l2.length : Int) 1) ++ enc (payS l2)) ++ (enc (Wr.leBytes (l3.length : Int) 1) ++ (enc (payC l3) ++ [])) := by
    unfold payN; simp [enc_append]
  have E5 : enc (payN e pl l2 l3) = (enc (Wr.leBytes e 8) ++ enc (Wr.leBytes pl 1) ++ enc (Wr.leBytes (l2.length : Int) 1) ++ enc (payS l2) ++ enc (Wr.leBytes (l3.length : Int) 1)) ++ (enc (payC l3) ++ []) := by
    unfold payN; simp [enc_append]
  have n0 : num8 (enc (payN e pl l2 l3)) 0 = e := by rw [E0]; exact num8_at [] e he _ 0 rfl
  have n1 : byteN (enc (payN e pl l2 l3)) 8 = pl := by rw [E1]; exact byteN_at _ pl hp.1 hp.2 _ 8 A.symm
  have n2 : byteN (enc (payN e pl l2 l3)) 9 = (l2.length : Int) := by rw [E2]; exact byteN_at _ _ (by omega) (by omega) _ 9 (by rw [List.length_append, A, B])
  have n3 : partsR (enc (payN e pl l2 l3)) 10 l2.length = l2 := by rw [E3]; exact partsR_at l2 ho.1 _ _ 10 (by rw [List.length_append, List.length_append, A, B, C])
  have n4 : byteN (enc (payN e pl l2 l3)) (10 + 16 * l2.length) = (l3.length : Int) := by rw [E4]; exact byteN_at _ _ (by omega) (by omega) _ _ (by rw [List.length_append, List.length_append, List.length_append, A, B, C, D])
  have n5 : wordsR (enc (payN e pl l2 l3)) (10 + 16 * l2.length + 1) l3.length = l3 := by rw [E5]; exact wordsR_at l3 ho.2 _ _ _ (by rw [List.length_append, List.length_append, List.length_append, List.length_append, A, B, C, D, F])
  unfold tellR
  rw [n0, n1, n2, c2, n3, n4, c3, n5]
theorem ok_lens {e p : Int} {l2 : List S78} {l3 : List Int} (h : okB e p l2 l3 = true) : l2.length ≤ 12 ∧ l3.length ≤ 2 := by
  unfold okB at h
  simp only [Bool.and_eq_true, decide_eq_true_eq] at h
  exact ⟨h.2.2.2.1, h.2.2.2.2.1⟩
theorem both (l : List UInt8) : takeN l = takeR l := by
  unfold takeN takeR
  by_cases c : (nextN l).2.2 = 0
  · rw [if_pos c, if_pos c]
    generalize (nextN l).1 = p
    by_cases a : (nextN l).2.1 = (l.length : Int) ∧ (tell p).left = some [] ∧ okB (tell p).e (tell p).pl (tell p).l2 (tell p).l3 = true
    · rw [if_pos a]
      obtain ⟨q2, q3⟩ := ok_lens a.2.2
      obtain ⟨i1, i2, i3, i4⟩ := tell_inv p a.2.1 q2 q3
      have hr := tellR_pay (tell p).e (tell p).pl (tell p).l2 (tell p).l3 i2 i3 i4 q2 q3
      rw [← i1] at hr
      rw [hr]
      dsimp only
      rw [if_pos ⟨a.1, a.2.2, i1.symm⟩]
    · rw [if_neg a]
      by_cases b : (nextN l).2.1 = (l.length : Int) ∧ okB (tellR p).1 (tellR p).2.1 (tellR p).2.2.1 (tellR p).2.2.2 = true ∧ enc (payN (tellR p).1 (tellR p).2.1 (tellR p).2.2.1 (tellR p).2.2.2) = p
      · exfalso
        obtain ⟨q2, q3⟩ := ok_lens b.2.1
        have hb8 := byteN_bd p 8
        have ht := tell_pay (tellR p).1 (tellR p).2.1 (tellR p).2.2.1 (tellR p).2.2.2 (num8_bd p 0) hb8 ⟨partsR_bd p _ _, wordsR_bd p _ _⟩ (by omega) (by omega)
        rw [b.2.2] at ht
        rw [ht] at a
        exact a ⟨b.1, rfl, b.2.1⟩
      · rw [if_neg b]
  · rw [if_neg c, if_neg c]
end Go.Proofs.YtnhjhaphfdlkfaaDoor.PT
