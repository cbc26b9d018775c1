/- Plain laws on the document's checksum, numbers and frames. -/
import Derived.Test.YtnhjhaphfdlkfaaDoorQPB
import Derived.Test.YtnhjhaphfdlkfaaDoorQHMx9
set_option linter.unusedVariables false
namespace Go.Proofs.YtnhjhaphfdlkfaaDoor.PB
open Go.RowKit Go.Proofs.YtnhjhaphfdlkfaaDoor.HM Go.Proofs.YtnhjhaphfdlkfaaDoorW.PrintWords Go.Proofs.YtnhjhaphfdlkfaaDoorW.PrintLast Go.Proofs.YtnhjhaphfdlkfaaDoorW.PrintMore
open Go.Proofs.YtnhjhaphfdlkfaaDoor.CrcLaw
/-! ### the document's checksum -/
theorem and1 (c : Nat) (hc : c < 4294967296) : Go.bits .and .u32 (c : Int) 1 = ((c % 2 : Nat) : Int) := and32 c 1 1 (by decide) (by decide) hc
theorem tb_lt (c : Nat) (h : c < 4294967296) : tb c < 4294967296 := by
  unfold tb
  split
  · exact Nat.xor_lt_two_pow (n := 32) (by omega) (by decide)
  · omega
theorem ref_step (c b : Nat) (hc : c < 4294967296) (hb : b < 2) : hindcastref03_Step.f (c : Int) (b : Int) = some ((tb (c ^^^ b) : Nat) : Int) := by
  unfold hindcastref03_Step.f
  rw [and1 c hc]
  have e : Int.tdiv (c : Int) 2 % 4294967296 = ((c / 2 : Nat) : Int) := by rw [Int.tdiv_eq_ediv_of_nonneg (by omega)]; omega
  rw [e, tb_xor]
  have hb2 : b = 0 ∨ b = 1 := by omega
  rcases hb2 with rfl | rfl
  · have t0 : tb 0 = 0 := by decide
    rw [t0, Nat.xor_zero]
    unfold tb
    rcases Nat.mod_two_eq_zero_or_one c with h | h
    · rw [h, if_pos rfl, if_neg (by decide)]
    · rw [h, if_neg (by decide), if_pos rfl]
      rw [show (3988292384 : Int) = ((3988292384 : Nat) : Int) from rfl, bits32 .xor _ _ (by omega) (by decide)]
  · have t1 : tb 1 = 3988292384 := by decide
    rw [t1]
    unfold tb
    rcases Nat.mod_two_eq_zero_or_one c with h | h
    · rw [h, if_neg (by decide), if_neg (by decide)]
      rw [show (3988292384 : Int) = ((3988292384 : Nat) : Int) from rfl, bits32 .xor _ _ (by omega) (by decide)]
    · rw [h, if_pos rfl, if_pos rfl, Nat.xor_assoc, Nat.xor_self, Nat.xor_zero]
theorem ref_bit (s : ByteArray) (i : Int) (k c b j : Nat) (hc : c < 4294967296) (hb : b < 256) (hj : j < 8) :
    hindcastref03_Update.l1 (k + 1) (c : Int) s i (b : Int) (j : Int) = hindcastref03_Update.l1 k ((tb (c ^^^ (b % 2)) : Nat) : Int) s i ((b / 2 : Nat) : Int) ((j + 1 : Nat) : Int) := by
  simp only [hindcastref03_Update.l1]
  rw [if_pos (by omega)]
  have e1 : Int.tmod (b : Int) 2 = ((b % 2 : Nat) : Int) := by rw [Int.tmod_eq_emod_of_nonneg (by omega)]; omega
  have e2 : Int.tdiv (b : Int) 2 % 4294967296 = ((b / 2 : Nat) : Int) := by rw [Int.tdiv_eq_ediv_of_nonneg (by omega)]; omega
  have e3 : wrap64 ((j : Int) + 1) = ((j + 1 : Nat) : Int) := by unfold wrap64; omega
  rw [e1, e2, e3, ref_step c (b % 2) hc (by omega), Option.bind_some]
theorem ref_byte (s : ByteArray) (i : Nat) (hi : i < 9223372036854775806) (k c b : Nat) (hc : c < 4294967296) (hb : b < 256) :
    hindcastref03_Update.l1 (k + 9) (c : Int) s (i : Int) (b : Int) 0 = hindcastref03_Update.l0 k ((stepN c b : Nat) : Int) s ((i + 1 : Nat) : Int) := by
  have L : ∀ c x, c < 4294967296 → x < 2 → tb (c ^^^ x) < 4294967296 := fun c x h hx => tb_lt _ (Nat.xor_lt_two_pow (n := 32) h (by omega))
  have m : ∀ x, x % 2 < 2 := fun x => Nat.mod_lt _ (by decide)
  rw [show (0 : Int) = ((0 : Nat) : Int) from rfl]
  have h0 := L c (b % 2) hc (m _)
  have h1 := L _ (b / 2 % 2) h0 (m _)
  have h2 := L _ (b / 2 / 2 % 2) h1 (m _)
  have h3 := L _ (b / 2 / 2 / 2 % 2) h2 (m _)
  have h4 := L _ (b / 2 / 2 / 2 / 2 % 2) h3 (m _)
  have h5 := L _ (b / 2 / 2 / 2 / 2 / 2 % 2) h4 (m _)
  have h6 := L _ (b / 2 / 2 / 2 / 2 / 2 / 2 % 2) h5 (m _)
  rw [ref_bit s i (k + 8) c b 0 hc (by omega) (by decide)]
  rw [ref_bit s i (k + 7) _ (b / 2) 1 h0 (by omega) (by decide)]
  rw [ref_bit s i (k + 6) _ (b / 2 / 2) 2 h1 (by omega) (by decide)]
  rw [ref_bit s i (k + 5) _ (b / 2 / 2 / 2) 3 h2 (by omega) (by decide)]
  rw [ref_bit s i (k + 4) _ (b / 2 / 2 / 2 / 2) 4 h3 (by omega) (by decide)]
  rw [ref_bit s i (k + 3) _ (b / 2 / 2 / 2 / 2 / 2) 5 h4 (by omega) (by decide)]
  rw [ref_bit s i (k + 2) _ (b / 2 / 2 / 2 / 2 / 2 / 2) 6 h5 (by omega) (by decide)]
  rw [ref_bit s i (k + 1) _ (b / 2 / 2 / 2 / 2 / 2 / 2 / 2) 7 h6 (by omega) (by decide)]
  have e : stepN c b = tb (tb (tb (tb (tb (tb (tb (tb (c ^^^ (b % 2)) ^^^ (b / 2 % 2)) ^^^ (b / 2 / 2 % 2)) ^^^ (b / 2 / 2 / 2 % 2)) ^^^ (b / 2 / 2 / 2 / 2 % 2)) ^^^ (b / 2 / 2 / 2 / 2 / 2 % 2)) ^^^ (b / 2 / 2 / 2 / 2 / 2 / 2 % 2)) ^^^ (b / 2 / 2 / 2 / 2 / 2 / 2 / 2 % 2)) := by
    rw [step_is c b hb]
    unfold bits8
    simp only [Nat.div_div_eq_div_mul, Nat.reducePow, Nat.reduceMul, Nat.div_one]
  rw [e]
  generalize tb (tb (tb (tb (tb (tb (tb (tb (c ^^^ (b % 2)) ^^^ (b / 2 % 2)) ^^^ (b / 2 / 2 % 2)) ^^^ (b / 2 / 2 / 2 % 2)) ^^^ (b / 2 / 2 / 2 / 2 % 2)) ^^^ (b / 2 / 2 / 2 / 2 / 2 % 2)) ^^^ (b / 2 / 2 / 2 / 2 / 2 / 2 % 2)) ^^^ (b / 2 / 2 / 2 / 2 / 2 / 2 / 2 % 2)) = x
  simp only [hindcastref03_Update.l1]
  rw [if_neg (by decide)]
  rw [show wrap64 ((i : Int) + 1) = ((i + 1 : Nat) : Int) by unfold wrap64; omega]
theorem ref_loop (s : ByteArray) (hs : s.size < 9223372036854775806) (d : Nat) : ∀ (k i c : Nat), c < 4294967296 → i + d = s.size → 10 * d < k →
    hindcastref03_Update.l0 k (c : Int) s (i : Int) = some ((flip (foldN c (s.data.toList.drop i)) : Nat) : Int) := by
  induction d with
  | zero =>
    intro k i c hc hd hk
    obtain ⟨k, rfl⟩ : ∃ m, k = m + 1 := ⟨k - 1, by omega⟩
    simp only [hindcastref03_Update.l0]
    rw [if_neg (by omega), List.drop_eq_nil_of_le (by simp; omega), flip_int c hc]
    rfl
  | succ d ih =>
    intro k i c hc hd hk
    obtain ⟨k, rfl⟩ : ∃ m, k = (m + 9) + 1 := ⟨k - 10, by omega⟩
    obtain ⟨b, e, hb⟩ := drop_cons s i (by omega)
    have h2 := b.toNat_lt
    simp only [hindcastref03_Update.l0]
    rw [if_pos (by omega), if_pos (by omega), hb]
    rw [show (b.toNat : Int) % 4294967296 = (b.toNat : Int) by omega, ref_byte s i (by omega) k c b.toNat hc (by omega), e]
    exact ih k (i + 1) _ (stepN_lt c b.toNat hc (by omega)) (by omega) (by omega)
theorem ref_sum_f (s : ByteArray) (hs : s.size < 9223372036854775806) (k : Nat) (hk : 10 * s.size < k) : hindcastref03_Sum.f k s = some ((updN 0 s : Nat) : Int) := by
  unfold hindcastref03_Sum.f hindcastref03_Update.f
  have h := flip_int 0 (by decide)
  rw [show ((0 : Nat) : Int) = 0 from rfl] at h
  rw [h]
  have := ref_loop s hs s.size k 0 (flip 0) (flip_lt 0 (by decide)) (by omega) hk
  rw [show ((0 : Nat) : Int) = 0 from rfl] at this
  rw [this, Option.bind_some]
  simp [updN]
/-! ### numbers as bytes -/
theorem number_step (k : Nat) (n w : Int) (l : List Int) (i : Nat) (h0 : 0 ≤ n) (h1 : n < 18446744073709551616) (hi : (i : Int) < w) (hw : w < 100) (hl : l.length < 100) :
    hindcastref02_Number.l0 (k + 1) n w l (i : Int) = hindcastref02_Number.l0 k (n / 256) w (l ++ [n % 256]) ((i + 1 : Nat) : Int) := by
  simp only [hindcastref02_Number.l0]
  rw [if_pos hi, if_pos (by omega), Int.tdiv_eq_ediv_of_nonneg h0, Int.tmod_eq_emod_of_nonneg h0]
  have e1 : IntKind.u64.wrap (n / 256) = n / 256 := IntWalk.u64_in _ ⟨by omega, by omega⟩
  have e2 : wrap64 ((i : Int) + 1) = ((i + 1 : Nat) : Int) := by unfold wrap64; omega
  have e3 : n % 256 % 256 = n % 256 := by omega
  rw [e1, e2, e3]
theorem number_end (k : Nat) (n w : Int) (l : List Int) (i : Int) (hi : ¬ i < w) : hindcastref02_Number.l0 (k + 1) n w l i = some (strOfNums l) := by
  simp only [hindcastref02_Number.l0]
  rw [if_neg hi]
theorem number2 (n : Int) (h0 : 0 ≤ n) (h1 : n < 18446744073709551616) (k : Nat) (hk : 2 < k) : hindcastref02_Number.f k n 2 = some (strOfNums (Wr.leBytes n 2)) := by
  obtain ⟨k, rfl⟩ : ∃ m, k = m + 3 := ⟨k - 3, by omega⟩
  unfold hindcastref02_Number.f
  have s0 := number_step (k + 2) n 2 [] 0 h0 h1 (by decide) (by decide) (by simp)
  have s1 := number_step (k + 1) (n / 256) 2 ([] ++ [n % 256]) 1 (by omega) (by omega) (by decide) (by decide) (by simp)
  rw [show ((0 : Nat) : Int) = 0 from rfl] at s0
  rw [s0, s1, number_end k _ _ _ _ (by decide)]
  congr 2
  simp [Wr.leBytes, Wr.byteAt, List.range_succ]
theorem number4 (n : Int) (h0 : 0 ≤ n) (h1 : n < 18446744073709551616) (k : Nat) (hk : 4 < k) : hindcastref02_Number.f k n 4 = some (strOfNums (Wr.leBytes n 4)) := by
  obtain ⟨k, rfl⟩ : ∃ m, k = m + 5 := ⟨k - 5, by omega⟩
  unfold hindcastref02_Number.f
  have s0 := number_step (k + 4) n 4 [] 0 h0 h1 (by decide) (by decide) (by simp)
  have s1 := number_step (k + 3) (n / 256) 4 ([] ++ [n % 256]) 1 (by omega) (by omega) (by decide) (by decide) (by simp)
  have s2 := number_step (k + 2) (n / 256 / 256) 4 ([] ++ [n % 256] ++ [n / 256 % 256]) 2 (by omega) (by omega) (by decide) (by decide) (by simp)
  have s3 := number_step (k + 1) (n / 256 / 256 / 256) 4 ([] ++ [n % 256] ++ [n / 256 % 256] ++ [n / 256 / 256 % 256]) 3 (by omega) (by omega) (by decide) (by decide) (by simp)
  rw [show ((0 : Nat) : Int) = 0 from rfl] at s0
  rw [s0, s1, s2, s3, number_end k _ _ _ _ (by decide)]
  congr 2
  simp [Wr.leBytes, Wr.byteAt, List.range_succ]
  omega
theorem ref_put_f (a : ByteArray) (ha : a.size ≤ 4096) (k : Nat) (hk : 50000 < k) : hindcastref04_Put.f k a = some (frameN a, 0) := by
  unfold hindcastref04_Put.f
  rw [if_neg (by omega)]
  have e : IntKind.u64.wrap ((a.size : Int)) = (a.size : Int) := IntWalk.u64_in _ ⟨by omega, by omega⟩
  have hl : (strOfNums (Wr.leBytes (a.size : Int) 2)).size = 2 := by rw [str_len, Wr.leBytes_len]
  have hla : (strOfNums (Wr.leBytes (a.size : Int) 2) ++ a).size = 2 + a.size := by rw [ByteArray.size_append, hl]
  rw [e, number2 _ (by omega) (by omega) k (by omega), Option.bind_some, if_pos (by omega), ref_sum_f _ (by omega) k (by omega), Option.bind_some]
  have h2 := updN_lt 0 (strOfNums (Wr.leBytes (a.size : Int) 2) ++ a) (by decide)
  have e2 : IntKind.u64.wrap (((updN 0 (strOfNums (Wr.leBytes (a.size : Int) 2) ++ a) : Nat) : Int)) = ((updN 0 (strOfNums (Wr.leBytes (a.size : Int) 2) ++ a) : Nat) : Int) := IntWalk.u64_in _ ⟨by omega, by omega⟩
  rw [e2, number4 _ (by omega) (by omega) k (by omega), Option.bind_some]
  have hl4 : (strOfNums (Wr.leBytes ((updN 0 (strOfNums (Wr.leBytes (a.size : Int) 2) ++ a) : Nat) : Int) 4)).size = 4 := by rw [str_len, Wr.leBytes_len]
  rw [if_pos (by omega), if_pos (by rw [ByteArray.size_append]; omega)]
  unfold frameN headN
  rw [str_append]
end Go.Proofs.YtnhjhaphfdlkfaaDoor.PB
