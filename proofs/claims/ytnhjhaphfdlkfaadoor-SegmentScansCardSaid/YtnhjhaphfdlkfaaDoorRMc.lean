/- Plain laws: the checksum, numbers, frames, a reader: what the printed functions come to. -/
import Derived.Test.YtnhjhaphfdlkfaaDoorRMb
import Derived.Test.YtnhjhaphfdlkfaaDoorProg
import Derived.Test.YtnhjhaphfdlkfaaDoorRMa
import Derived.WalkKit
import Derived.KernelRfl
import Derived.Deep.LoopGhost
import Derived.Deep.RegionLaw
import Derived.Lib.Hide
import Derived.OneCell
import Derived.IntWalk
import Derived.Deep.QuietTactic
import Derived.Deep.MidRow
import Derived.Lib.SlicesS
import Derived.Deep.RegionHeld3
import Derived.BigQuiet
set_option linter.unusedVariables false
namespace Go.Proofs.YtnhjhaphfdlkfaaDoor.SB
open Go.RowKit Go.Proofs.YtnhjhaphfdlkfaaDoor.HF Go.Proofs.YtnhjhaphfdlkfaaDoorW.PrintWords Go.Proofs.YtnhjhaphfdlkfaaDoorW.PrintLast Go.Proofs.YtnhjhaphfdlkfaaDoorW.PrintMore
open Go.Proofs.YtnhjhaphfdlkfaaDoor.CrcLaw
/-- With enough rounds it is so. -/
def Evt {α : Type} (g : Nat → Option α) (r : α) : Prop := ∃ K, ∀ k, K ≤ k → g k = some r
theorem Evt.of {α : Type} {g : Nat → Option α} {r : α} (K : Nat) (h : ∀ k, K ≤ k → g k = some r) : Evt g r := ⟨K, h⟩
theorem Evt.pure {α : Type} (r : α) : Evt (fun _ => some r) r := ⟨0, fun _ _ => rfl⟩
theorem Evt.bind {α β : Type} {g : Nat → Option α} {r : α} {f : Nat → α → Option β} {s : β} (h : Evt g r) (h2 : Evt (fun k => f k r) s) : Evt (fun k => (g k).bind (f k)) s := by
  obtain ⟨K, h⟩ := h
  obtain ⟨K2, h2⟩ := h2
  exact ⟨max K K2, fun k hk => by show (g k).bind (f k) = some s; rw [h k (by omega)]; exact h2 k (by omega)⟩
/-! ### numbers of 32 bits -/
theorem bits32 (op : BinOp) (a b : Nat) (ha : a < 4294967296) (hb : b < 4294967296) : Go.bits .xor .u32 a b = ((a ^^^ b : Nat) : Int) := by
  have hx : a ^^^ b < 2 ^ 32 := Nat.xor_lt_two_pow ha hb
  have e : (BitVec.ofInt 32 (a : Int) ^^^ BitVec.ofInt 32 (b : Int)).toNat = a ^^^ b := by
    rw [BitVec.toNat_xor, BitVec.ofInt_natCast, BitVec.ofInt_natCast, BitVec.toNat_ofNat, BitVec.toNat_ofNat, Nat.mod_eq_of_lt (show a < 2 ^ 32 from ha), Nat.mod_eq_of_lt (show b < 2 ^ 32 from hb)]
  show IntKind.u32.wrap (((BitVec.ofInt 32 (a : Int) ^^^ BitVec.ofInt 32 (b : Int)).toNat : Nat) : Int) = _
  rw [e, IntKind.wrap_u32]
  have : ((a ^^^ b : Nat) : Int) < ((4294967296 : Nat) : Int) := Int.ofNat_lt.2 hx
  omega
theorem and32 (a m j : Nat) (hm : m = 2 ^ j - 1) (hj : j ≤ 32) (ha : a < 4294967296) : Go.bits .and .u32 a m = ((a % 2 ^ j : Nat) : Int) := by
  have h := bits_mask .u32 32 (by decide) (fun n h0 h1 => by rw [IntKind.wrap_u32]; omega) j hj (a : Int) (by omega) (by omega)
  have e : ((m : Nat) : Int) = 2 ^ j - 1 := by
    subst hm
    rw [Int.natCast_sub (Nat.one_le_two_pow)]; simp
  rw [e, h]
  simp
theorem tab_is (i : Nat) (hi : i < 16) : Crc.tab (i : Int) = ((tabN i : Nat) : Int) := by
  have : ∀ i : Nat, i < 16 → Crc.tab (i : Int) = ((tabN i : Nat) : Int) := by decide
  exact this i hi
theorem tabN_lt (i : Nat) : tabN i < 4294967296 := by
  unfold tabN
  rcases Nat.lt_or_ge i 16 with h | h
  · have : ∀ i, i < 16 → tabN i < 4294967296 := by decide
    exact this i h
  · rw [List.getD_eq_getElem?_getD, List.getElem?_eq_none (by simpa using h)]; decide
theorem half_int (c : Nat) (hc : c < 4294967296) : Crc.half (c : Int) = ((halfN c : Nat) : Int) := by
  unfold Crc.half halfN
  have h := and32 c 15 4 (by decide) (by decide) hc
  rw [show ((15 : Nat) : Int) = 15 from rfl] at h
  rw [h, tab_is _ (Nat.mod_lt _ (by decide)), show ((c : Int) / 16) = ((c / 16 : Nat) : Int) by omega]
  exact bits32 .xor _ _ (tabN_lt _) (by omega)
theorem halfN_lt (c : Nat) (hc : c < 4294967296) : halfN c < 4294967296 := Nat.xor_lt_two_pow (n := 32) (tabN_lt _) (Nat.lt_of_le_of_lt (Nat.div_le_self _ _) hc)
theorem stepN_lt (c b : Nat) (hc : c < 4294967296) (hb : b < 256) : stepN c b < 4294967296 := halfN_lt _ (halfN_lt _ (Nat.xor_lt_two_pow (n := 32) hc (by omega)))
theorem step_int (c b : Nat) (hc : c < 4294967296) (hb : b < 256) : Crc.stepI (c : Int) (b : Int) = ((stepN c b : Nat) : Int) := by
  unfold Crc.stepI stepN
  have hx : c ^^^ b < 4294967296 := Nat.xor_lt_two_pow (n := 32) hc (by omega)
  rw [bits32 .xor c b hc (by omega), half_int _ hx, half_int _ (halfN_lt _ hx)]
/-! ### the checksum of a text -/
def foldN (c : Nat) (l : List UInt8) : Nat := l.foldl (fun c b => stepN c b.toNat) c
theorem foldN_lt (l : List UInt8) : ∀ c, c < 4294967296 → foldN c l < 4294967296 := by
  induction l with
  | nil => exact fun c h => h
  | cons b l ih => exact fun c h => ih _ (stepN_lt c b.toNat h b.toNat_lt)
theorem foldN_append (c : Nat) (a b : List UInt8) : foldN c (a ++ b) = foldN (foldN c a) b := List.foldl_append
def flip (c : Nat) : Nat := c ^^^ 4294967295
theorem flip_lt (c : Nat) (h : c < 4294967296) : flip c < 4294967296 := Nat.xor_lt_two_pow (n := 32) h (by decide)
theorem flip_flip (c : Nat) : flip (flip c) = c := by unfold flip; rw [Nat.xor_assoc, Nat.xor_self, Nat.xor_zero]
/-- P3.1. -/
def updN (c : Nat) (s : ByteArray) : Nat := flip (foldN (flip c) s.data.toList)
theorem updN_lt (c : Nat) (s : ByteArray) (h : c < 4294967296) : updN c s < 4294967296 := flip_lt _ (foldN_lt _ _ (flip_lt c h))
theorem updN_append (c : Nat) (a b : ByteArray) : updN (updN c a) b = updN c (a ++ b) := by
  unfold updN
  rw [flip_flip, ByteArray.data_append, Array.toList_append, foldN_append]
theorem flip_int (c : Nat) (h : c < 4294967296) : Go.bits .xor .u32 (c : Int) 4294967295 = ((flip c : Nat) : Int) := bits32 .xor c 4294967295 h (by decide)
theorem flip_int' (c : Nat) (h : c < 4294967296) : Go.bits .xor .u32 4294967295 (c : Int) = ((flip c : Nat) : Int) := by
  rw [show (4294967295 : Int) = ((4294967295 : Nat) : Int) from rfl, bits32 .xor 4294967295 c (by decide) h, Nat.xor_comm]; rfl
theorem bt_nat (s : ByteArray) (i : Nat) (h : i < s.size) : bt s (i : Int) = ((s.data.toList[i]'(by simpa using h)).toNat : Int) := by
  unfold bt
  rw [dif_pos (by simpa using h)]
  simp
  rfl
theorem drop_cons (s : ByteArray) (i : Nat) (h : i < s.size) : ∃ b : UInt8, s.data.toList.drop i = b :: s.data.toList.drop (i + 1) ∧ bt s (i : Int) = (b.toNat : Int) :=
  ⟨s.data.toList[i]'(by simpa using h), List.drop_eq_getElem_cons (by simpa using h), bt_nat s i h⟩
theorem step_f (c : Nat) (b : UInt8) (hc : c < 4294967296) : crc_step.f (c : Int) (b.toNat : Int) = some ((stepN c b.toNat : Nat) : Int) := by
  have := b.toNat_lt
  unfold crc_step.f
  rw [if_pos (by omega), step_int c b.toNat hc (by omega)]
theorem update_loop (s : ByteArray) (hs : s.size < 9223372036854775807) (d : Nat) : ∀ (k i c : Nat), c < 4294967296 → i + d = s.size → d < k →
    crc_Update.l0 k (c : Int) s (s.size : Int) (i : Int) = some ((flip (foldN c (s.data.toList.drop i)) : Nat) : Int) := by
  induction d with
  | zero =>
    intro k i c hc hd hk
    obtain ⟨k, rfl⟩ : ∃ m, k = m + 1 := ⟨k - 1, by omega⟩
    simp only [crc_Update.l0]
    rw [if_neg (by omega), List.drop_eq_nil_of_le (by simp; omega), flip_int' c hc]
    rfl
  | succ d ih =>
    intro k i c hc hd hk
    obtain ⟨k, rfl⟩ : ∃ m, k = m + 1 := ⟨k - 1, by omega⟩
    obtain ⟨b, e, hb⟩ := drop_cons s i (by omega)
    have h2 := b.toNat_lt
    simp only [crc_Update.l0]
    rw [if_pos (by omega), if_pos (by omega), if_pos (by omega), hb, step_f c b hc, Option.bind_some]
    rw [show wrap64 ((i : Int) + 1) = ((i + 1 : Nat) : Int) by unfold wrap64; omega, e]
    exact ih k (i + 1) _ (stepN_lt c b.toNat hc h2) (by omega) (by omega)
theorem update_f (c : Nat) (hc : c < 4294967296) (s : ByteArray) (hs : s.size < 9223372036854775807) (k : Nat) (hk : s.size < k) : crc_Update.f k (c : Int) s = some ((updN c s : Nat) : Int) := by
  unfold crc_Update.f
  rw [flip_int' c hc]
  have := update_loop s hs s.size k 0 (flip c) (flip_lt c hc) (by omega) hk
  simpa [updN] using this
theorem sum_f (s : ByteArray) (hs : s.size < 9223372036854775807) (k : Nat) (hk : s.size < k) : crc_Sum.f k s = some ((updN 0 s : Nat) : Int) := by
  unfold crc_Sum.f
  have := update_f 0 (by decide) s hs k hk
  rw [show ((0 : Nat) : Int) = 0 from rfl] at this
  rw [this, Option.bind_some]
/-! ### frames -/
theorem str_append (a b : List Int) : strOfNums (a ++ b) = strOfNums a ++ strOfNums b := by
  apply ByteArray.ext
  apply Array.ext'
  simp [strOfNums]
/-- P4.1. -/
def headN (a : ByteArray) : List Int := Wr.leBytes (a.size : Int) 2 ++ Wr.leBytes ((updN 0 (strOfNums (Wr.leBytes (a.size : Int) 2) ++ a) : Nat) : Int) 4
def frameN (a : ByteArray) : ByteArray := strOfNums (headN a) ++ a
theorem str_len (l : List Int) : (strOfNums l).size = l.length := Wr.str_size l
theorem frame_put_f (a : ByteArray) (ha : a.size ≤ 4096) (k : Nat) (hk : 5000 < k) : frame_Put.f k a = some (frameN a, 0) := by
  unfold frame_Put.f
  rw [if_neg (by omega)]
  have hl : (strOfNums (Wr.leBytes (a.size : Int) 2)).size = 2 := by rw [str_len, Wr.leBytes_len]
  rw [sum_f _ (by omega) k (by omega), Option.bind_some]
  have h1 := updN_lt 0 (strOfNums (Wr.leBytes (a.size : Int) 2)) (by decide)
  rw [update_f _ h1 a (by omega) k (by omega), Option.bind_some, updN_append]
  have h2 := updN_lt 0 (strOfNums (Wr.leBytes (a.size : Int) 2) ++ a) (by decide)
  rw [if_pos (by omega)]
  rfl
/-! ### the document's checksum -/
theorem and1 (c : Nat) (hc : c < 4294967296) : Go.bits .and .u32 (c : Int) 1 = ((c % 2 : Nat) : Int) := and32 c 1 1 (by decide) (by decide) hc
theorem tb_lt (c : Nat) (h : c < 4294967296) : tb c < 4294967296 := by
  unfold tb
  split
  · exact Nat.xor_lt_two_pow (n := 32) (by omega) (by decide)
  · omega
theorem ref_step (c b : Nat) (hc : c < 4294967296) (hb : b < 2) : hindcastref03_Step.f (c : Int) (b : Int) = some ((tb (c ^^^ b) : Nat) : Int) := by
  unfold hindcastref03_Step.f
  rw [and1 c hc]
  have e : Int.tdiv (c : Int) 2 % 4294967296 = ((c / 2 : Nat) : Int) := by rw [Int.tdiv_eq_ediv_of_nonneg (by omega)]; omega
  rw [e, tb_xor]
  have hb2 : b = 0 ∨ b = 1 := by omega
  rcases hb2 with rfl | rfl
  · have t0 : tb 0 = 0 := by decide
    rw [t0, Nat.xor_zero]
    unfold tb
    rcases Nat.mod_two_eq_zero_or_one c with h | h
    · rw [h, if_pos rfl, if_neg (by decide)]
    · rw [h, if_neg (by decide), if_pos rfl]
      rw [show (3988292384 : Int) = ((3988292384 : Nat) : Int) from rfl, bits32 .xor _ _ (by omega) (by decide)]
  · have t1 : tb 1 = 3988292384 := by decide
    rw [t1]
    unfold tb
    rcases Nat.mod_two_eq_zero_or_one c with h | h
    · rw [h, if_neg (by decide), if_neg (by decide)]
      rw [show (3988292384 : Int) = ((3988292384 : Nat) : Int) from rfl, bits32 .xor _ _ (by omega) (by decide)]
    · rw [h, if_pos rfl, if_pos rfl, Nat.xor_assoc, Nat.xor_self, Nat.xor_zero]
theorem ref_bit (s : ByteArray) (i : Int) (k c b j : Nat) (hc : c < 4294967296) (hb : b < 256) (hj : j < 8) :
    hindcastref03_Update.l1 (k + 1) (c : Int) s i (b : Int) (j : Int) = hindcastref03_Update.l1 k ((tb (c ^^^ (b % 2)) : Nat) : Int) s i ((b / 2 : Nat) : Int) ((j + 1 : Nat) : Int) := by
  simp only [hindcastref03_Update.l1]
  rw [if_pos (by omega)]
  have e1 : Int.tmod (b : Int) 2 = ((b % 2 : Nat) : Int) := by rw [Int.tmod_eq_emod_of_nonneg (by omega)]; omega
  have e2 : Int.tdiv (b : Int) 2 % 4294967296 = ((b / 2 : Nat) : Int) := by rw [Int.tdiv_eq_ediv_of_nonneg (by omega)]; omega
  have e3 : wrap64 ((j : Int) + 1) = ((j + 1 : Nat) : Int) := by unfold wrap64; omega
  rw [e1, e2, e3, ref_step c (b % 2) hc (by omega), Option.bind_some]
theorem ref_byte (s : ByteArray) (i : Nat) (hi : i < 9223372036854775806) (k c b : Nat) (hc : c < 4294967296) (hb : b < 256) :
    hindcastref03_Update.l1 (k + 9) (c : Int) s (i : Int) (b : Int) 0 = hindcastref03_Update.l0 k ((stepN c b : Nat) : Int) s ((i + 1 : Nat) : Int) := by
  have L : ∀ c x, c < 4294967296 → x < 2 → tb (c ^^^ x) < 4294967296 := fun c x h hx => tb_lt _ (Nat.xor_lt_two_pow (n := 32) h (by omega))
  have m : ∀ x, x % 2 < 2 := fun x => Nat.mod_lt _ (by decide)
  rw [show (0 : Int) = ((0 : Nat) : Int) from rfl]
  have h0 := L c (b % 2) hc (m _)
  have h1 := L _ (b / 2 % 2) h0 (m _)
  have h2 := L _ (b / 2 / 2 % 2) h1 (m _)
  have h3 := L _ (b / 2 / 2 / 2 % 2) h2 (m _)
  have h4 := L _ (b / 2 / 2 / 2 / 2 % 2) h3 (m _)
  have h5 := L _ (b / 2 / 2 / 2 / 2 / 2 % 2) h4 (m _)
  have h6 := L _ (b / 2 / 2 / 2 / 2 / 2 / 2 % 2) h5 (m _)
  rw [ref_bit s i (k + 8) c b 0 hc (by omega) (by decide)]
  rw [ref_bit s i (k + 7) _ (b / 2) 1 h0 (by omega) (by decide)]
  rw [ref_bit s i (k + 6) _ (b / 2 / 2) 2 h1 (by omega) (by decide)]
  rw [ref_bit s i (k + 5) _ (b / 2 / 2 / 2) 3 h2 (by omega) (by decide)]
  rw [ref_bit s i (k + 4) _ (b / 2 / 2 / 2 / 2) 4 h3 (by omega) (by decide)]
  rw [ref_bit s i (k + 3) _ (b / 2 / 2 / 2 / 2 / 2) 5 h4 (by omega) (by decide)]
  rw [ref_bit s i (k + 2) _ (b / 2 / 2 / 2 / 2 / 2 / 2) 6 h5 (by omega) (by decide)]
  rw [ref_bit s i (k + 1) _ (b / 2 / 2 / 2 / 2 / 2 / 2 / 2) 7 h6 (by omega) (by decide)]
  have e : stepN c b = tb (tb (tb (tb (tb (tb (tb (tb (c ^^^ (b % 2)) ^^^ (b / 2 % 2)) ^^^ (b / 2 / 2 % 2)) ^^^ (b / 2 / 2 / 2 % 2)) ^^^ (b / 2 / 2 / 2 / 2 % 2)) ^^^ (b / 2 / 2 / 2 / 2 / 2 % 2)) ^^^ (b / 2 / 2 / 2 / 2 / 2 / 2 % 2)) ^^^ (b / 2 / 2 / 2 / 2 / 2 / 2 / 2 % 2)) := by
    rw [step_is c b hb]
    unfold bits8
    simp only [Nat.div_div_eq_div_mul, Nat.reducePow, Nat.reduceMul, Nat.div_one]
  rw [e]
  generalize tb (tb (tb (tb (tb (tb (tb (tb (c ^^^ (b % 2)) ^^^ (b / 2 % 2)) ^^^ (b / 2 / 2 % 2)) ^^^ (b / 2 / 2 / 2 % 2)) ^^^ (b / 2 / 2 / 2 / 2 % 2)) ^^^ (b / 2 / 2 / 2 / 2 / 2 % 2)) ^^^ (b / 2 / 2 / 2 / 2 / 2 / 2 % 2)) ^^^ (b / 2 / 2 / 2 / 2 / 2 / 2 / 2 % 2)) = x
  simp only [hindcastref03_Update.l1]
  rw [if_neg (by decide)]
  rw [show wrap64 ((i : Int) + 1) = ((i + 1 : Nat) : Int) by unfold wrap64; omega]
theorem ref_loop (s : ByteArray) (hs : s.size < 9223372036854775806) (d : Nat) : ∀ (k i c : Nat), c < 4294967296 → i + d = s.size → 10 * d < k →
    hindcastref03_Update.l0 k (c : Int) s (i : Int) = some ((flip (foldN c (s.data.toList.drop i)) : Nat) : Int) := by
  induction d with
  | zero =>
    intro k i c hc hd hk
    obtain ⟨k, rfl⟩ : ∃ m, k = m + 1 := ⟨k - 1, by omega⟩
    simp only [hindcastref03_Update.l0]
    rw [if_neg (by omega), List.drop_eq_nil_of_le (by simp; omega), flip_int c hc]
    rfl
  | succ d ih =>
    intro k i c hc hd hk
    obtain ⟨k, rfl⟩ : ∃ m, k = (m + 9) + 1 := ⟨k - 10, by omega⟩
    obtain ⟨b, e, hb⟩ := drop_cons s i (by omega)
    have h2 := b.toNat_lt
    simp only [hindcastref03_Update.l0]
    rw [if_pos (by omega), if_pos (by omega), hb]
    rw [show (b.toNat : Int) % 4294967296 = (b.toNat : Int) by omega, ref_byte s i (by omega) k c b.toNat hc (by omega), e]
    exact ih k (i + 1) _ (stepN_lt c b.toNat hc (by omega)) (by omega) (by omega)
theorem ref_sum_f (s : ByteArray) (hs : s.size < 9223372036854775806) (k : Nat) (hk : 10 * s.size < k) : hindcastref03_Sum.f k s = some ((updN 0 s : Nat) : Int) := by
  unfold hindcastref03_Sum.f hindcastref03_Update.f
  have h := flip_int 0 (by decide)
  rw [show ((0 : Nat) : Int) = 0 from rfl] at h
  rw [h]
  have := ref_loop s hs s.size k 0 (flip 0) (flip_lt 0 (by decide)) (by omega) hk
  rw [show ((0 : Nat) : Int) = 0 from rfl] at this
  rw [this, Option.bind_some]
  simp [updN]
/-! ### numbers as bytes -/
theorem number_step (k : Nat) (n w : Int) (l : List Int) (i : Nat) (h0 : 0 ≤ n) (h1 : n < 18446744073709551616) (hi : (i : Int) < w) (hw : w < 100) (hl : l.length < 100) :
    hindcastref02_Number.l0 (k + 1) n w l (i : Int) = hindcastref02_Number.l0 k (n / 256) w (l ++ [n % 256]) ((i + 1 : Nat) : Int) := by
  simp only [hindcastref02_Number.l0]
  rw [if_pos hi, if_pos (by omega), Int.tdiv_eq_ediv_of_nonneg h0, Int.tmod_eq_emod_of_nonneg h0]
  have e1 : IntKind.u64.wrap (n / 256) = n / 256 := IntWalk.u64_in _ ⟨by omega, by omega⟩
  have e2 : wrap64 ((i : Int) + 1) = ((i + 1 : Nat) : Int) := by unfold wrap64; omega
  have e3 : n % 256 % 256 = n % 256 := by omega
  rw [e1, e2, e3]
theorem number_end (k : Nat) (n w : Int) (l : List Int) (i : Int) (hi : ¬ i < w) : hindcastref02_Number.l0 (k + 1) n w l i = some (strOfNums l) := by
  simp only [hindcastref02_Number.l0]
  rw [if_neg hi]
theorem number2 (n : Int) (h0 : 0 ≤ n) (h1 : n < 18446744073709551616) (k : Nat) (hk : 2 < k) : hindcastref02_Number.f k n 2 = some (strOfNums (Wr.leBytes n 2)) := by
  obtain ⟨k, rfl⟩ : ∃ m, k = m + 3 := ⟨k - 3, by omega⟩
  unfold hindcastref02_Number.f
  have s0 := number_step (k + 2) n 2 [] 0 h0 h1 (by decide) (by decide) (by simp)
  have s1 := number_step (k + 1) (n / 256) 2 ([] ++ [n % 256]) 1 (by omega) (by omega) (by decide) (by decide) (by simp)
  rw [show ((0 : Nat) : Int) = 0 from rfl] at s0
  rw [s0, s1, number_end k _ _ _ _ (by decide)]
  congr 2
  simp [Wr.leBytes, Wr.byteAt, List.range_succ]
theorem number4 (n : Int) (h0 : 0 ≤ n) (h1 : n < 18446744073709551616) (k : Nat) (hk : 4 < k) : hindcastref02_Number.f k n 4 = some (strOfNums (Wr.leBytes n 4)) := by
  obtain ⟨k, rfl⟩ : ∃ m, k = m + 5 := ⟨k - 5, by omega⟩
  unfold hindcastref02_Number.f
  have s0 := number_step (k + 4) n 4 [] 0 h0 h1 (by decide) (by decide) (by simp)
  have s1 := number_step (k + 3) (n / 256) 4 ([] ++ [n % 256]) 1 (by omega) (by omega) (by decide) (by decide) (by simp)
  have s2 := number_step (k + 2) (n / 256 / 256) 4 ([] ++ [n % 256] ++ [n / 256 % 256]) 2 (by omega) (by omega) (by decide) (by decide) (by simp)
  have s3 := number_step (k + 1) (n / 256 / 256 / 256) 4 ([] ++ [n % 256] ++ [n / 256 % 256] ++ [n / 256 / 256 % 256]) 3 (by omega) (by omega) (by decide) (by decide) (by simp)
  rw [show ((0 : Nat) : Int) = 0 from rfl] at s0
  rw [s0, s1, s2, s3, number_end k _ _ _ _ (by decide)]
  congr 2
  simp [Wr.leBytes, Wr.byteAt, List.range_succ]
  omega
theorem ref_put_f (a : ByteArray) (ha : a.size ≤ 4096) (k : Nat) (hk : 50000 < k) : hindcastref04_Put.f k a = some (frameN a, 0) := by
  unfold hindcastref04_Put.f
  rw [if_neg (by omega)]
  have e : IntKind.u64.wrap ((a.size : Int)) = (a.size : Int) := IntWalk.u64_in _ ⟨by omega, by omega⟩
  have hl : (strOfNums (Wr.leBytes (a.size : Int) 2)).size = 2 := by rw [str_len, Wr.leBytes_len]
  have hla : (strOfNums (Wr.leBytes (a.size : Int) 2) ++ a).size = 2 + a.size := by rw [ByteArray.size_append, hl]
  rw [e, number2 _ (by omega) (by omega) k (by omega), Option.bind_some, if_pos (by omega), ref_sum_f _ (by omega) k (by omega), Option.bind_some]
  have h2 := updN_lt 0 (strOfNums (Wr.leBytes (a.size : Int) 2) ++ a) (by decide)
  have e2 : IntKind.u64.wrap (((updN 0 (strOfNums (Wr.leBytes (a.size : Int) 2) ++ a) : Nat) : Int)) = ((updN 0 (strOfNums (Wr.leBytes (a.size : Int) 2) ++ a) : Nat) : Int) := IntWalk.u64_in _ ⟨by omega, by omega⟩
  rw [e2, number4 _ (by omega) (by omega) k (by omega), Option.bind_some]
  have hl4 : (strOfNums (Wr.leBytes ((updN 0 (strOfNums (Wr.leBytes (a.size : Int) 2) ++ a) : Nat) : Int) 4)).size = 4 := by rw [str_len, Wr.leBytes_len]
  rw [if_pos (by omega), if_pos (by rw [ByteArray.size_append]; omega)]
  unfold frameN headN
  rw [str_append]
/-- A number, the lowest byte first. -/
def numN : List UInt8 → Nat
  | [] => 0
  | b :: l => b.toNat + 256 * numN l
theorem numN_lt (l : List UInt8) : numN l < 256 ^ l.length := by
  induction l with
  | nil => decide
  | cons b l ih =>
    have := b.toNat_lt
    simp only [numN, List.length_cons, Nat.pow_succ]
    omega
theorem numN_snoc (l : List UInt8) (b : UInt8) : numN (l ++ [b]) = numN l + b.toNat * 256 ^ l.length := by
  induction l with
  | nil => simp [numN]
  | cons a l ih =>
    simp only [List.cons_append, numN, ih, List.length_cons, Nat.pow_succ, Nat.mul_add]
    rw [Nat.mul_comm 256 (b.toNat * 256 ^ l.length), Nat.mul_assoc]
    omega
theorem pow256 (i : Nat) : 256 ^ i = 2 ^ (8 * i) := by rw [Nat.pow_mul]
theorem or_comm_bits (k : IntKind) (x y : Int) : Go.bits .or k x y = Go.bits .or k y x := by
  unfold Go.bits
  simp only [BitVec.or_comm]
theorem or_join (k : IntKind) (j : Nat) (hj : j ≤ k.bits) (hk : ∀ n : Int, 0 ≤ n → n < 2 ^ j → k.wrap n = n) (i x b : Nat) (hx : x < 2 ^ i) (hb : b * 2 ^ i < 2 ^ j) (hij : i ≤ j) :
    Go.bits .or k (x : Int) ((b * 2 ^ i : Nat) : Int) = ((x + b * 2 ^ i : Nat) : Int) := by
  have p : (2 : Nat) ^ i ≤ 2 ^ j := Nat.pow_le_pow_right (by decide) hij
  rw [or_comm_bits, bits_join k j hj hk i]
  · omega
  · omega
  · have : b * 2 ^ i % 2 ^ i = 0 := Nat.mul_mod_left _ _
    exact_mod_cast this
  · exact_mod_cast hb
  · omega
  · exact_mod_cast hx
  · exact_mod_cast (Nat.lt_of_lt_of_le hx p)
theorem shl_nat (b i : Nat) (hb : b < 256) (hi : i < 8) : shl .u64 (IntKind.u64.wrap (b : Int)) (wrap64 (8 * (i : Int))) = ((b * 2 ^ (8 * i) : Nat) : Int) := by
  have e1 : IntKind.u64.wrap (b : Int) = (b : Int) := IntWalk.u64_in _ ⟨by omega, by omega⟩
  have e2 : wrap64 (8 * (i : Int)) = ((8 * i : Nat) : Int) := by unfold wrap64; omega
  rw [e1, e2]
  unfold shl
  rw [Int.toNat_natCast, show min (8 * i) IntKind.u64.bits = 8 * i by show min (8 * i) 64 = 8 * i; omega]
  have e3 : (b : Int) * 2 ^ (8 * i) = ((b * 2 ^ (8 * i) : Nat) : Int) := by simp
  rw [e3]
  have h1 : b * 2 ^ (8 * i) < 256 * 2 ^ (8 * i) := Nat.mul_lt_mul_of_pos_right hb (Nat.two_pow_pos _)
  have h2 : 256 * 2 ^ (8 * i) ≤ 2 ^ 64 := by
    have : 256 * 2 ^ (8 * i) = 2 ^ (8 + 8 * i) := by rw [Nat.pow_add]
    rw [this]; exact Nat.pow_le_pow_right (by decide) (by omega)
  have h3 : b * 2 ^ (8 * i) < 2 ^ 64 := Nat.lt_of_lt_of_le h1 h2
  generalize b * 2 ^ (8 * i) = m at h3
  exact IntWalk.u64_in _ ⟨by omega, by omega⟩
theorem byte_fits (b i w : Nat) (hb : b < 256) (hi : i < w) : b * 2 ^ (8 * i) < 2 ^ (8 * w) := by
  have h1 : b * 2 ^ (8 * i) < 256 * 2 ^ (8 * i) := Nat.mul_lt_mul_of_pos_right hb (Nat.two_pow_pos _)
  have h2 : 256 * 2 ^ (8 * i) = 2 ^ (8 * (i + 1)) := by rw [Nat.mul_add, Nat.pow_add, Nat.mul_comm]
  have h3 : (2 : Nat) ^ (8 * (i + 1)) ≤ 2 ^ (8 * w) := Nat.pow_le_pow_right (by decide) (by omega)
  omega
theorem take_bt (s : ByteArray) (i : Nat) (h : i < s.size) : ∃ b : UInt8, s.data.toList.take (i + 1) = s.data.toList.take i ++ [b] ∧ bt s (i : Int) = (b.toNat : Int) :=
  ⟨s.data.toList[i]'(by simpa using h), List.take_succ_eq_append_getElem (by simpa using h), bt_nat s i h⟩
theorem get64_loop (s : ByteArray) (hs : s.size ≤ 8) (r : ByteArray) (e : Int) (d : Nat) : ∀ (k i : Nat), i + d = s.size → d < k →
    codec_get_uint64.l0 k ((numN (s.data.toList.take i) : Nat) : Int) s (s.size : Int) (i : Int) r e = some (((numN s.data.toList : Nat) : Int), r, e) := by
  induction d with
  | zero =>
    intro k i hd hk
    obtain ⟨k, rfl⟩ : ∃ m, k = m + 1 := ⟨k - 1, by omega⟩
    simp only [codec_get_uint64.l0]
    rw [if_neg (by omega), List.take_of_length_le (by simp; omega)]
  | succ d ih =>
    intro k i hd hk
    obtain ⟨k, rfl⟩ : ∃ m, k = m + 1 := ⟨k - 1, by omega⟩
    obtain ⟨b, e1, e2⟩ := take_bt s i (by omega)
    have hb := b.toNat_lt
    have hw : wrap64 ((i : Int) + 1) = ((i + 1 : Nat) : Int) := by unfold wrap64; omega
    have hl : (s.data.toList.take i).length = i := by rw [List.length_take]; simp; omega
    have hx := numN_lt (s.data.toList.take i)
    rw [hl, pow256] at hx
    have hf := byte_fits b.toNat i 8 (by omega) (by omega)
    have hn := ih k (i + 1) (by omega) (by omega)
    have hs8 := shl_nat b.toNat i (by omega) (by omega)
    have h8 : 0 ≤ wrap64 (8 * (i : Int)) := by unfold wrap64; omega
    simp only [codec_get_uint64.l0]
    rw [if_pos (by omega), if_pos (by omega), if_pos (by omega), if_pos h8, e2, hs8, hw]
    have hc : ((b.toNat * 2 ^ (8 * i) : Nat) : Int) = ((b.toNat * 2 ^ (8 * i) : Nat) : Int) := by
      generalize b.toNat * 2 ^ (8 * i) = m at hf
      rfl
    rw [or_join .u64 64 (by decide) (fun n h0 h1 => by exact IntWalk.u64_in _ ⟨h0, by omega⟩) (8 * i) _ b.toNat hx hf (by omega)]
    have h9 : numN (s.data.toList.take i) + b.toNat * 2 ^ (8 * i) = numN (s.data.toList.take (i + 1)) := by rw [e1, numN_snoc, hl, pow256]
    rw [h9]
    exact hn
theorem get32_loop (s : ByteArray) (hs : s.size ≤ 4) (r : ByteArray) (e : Int) (d : Nat) : ∀ (k i : Nat), i + d = s.size → d < k →
    codec_get_uint32.l0 k ((numN (s.data.toList.take i) : Nat) : Int) s (s.size : Int) (i : Int) r e = some (((numN s.data.toList : Nat) : Int), r, e) := by
  induction d with
  | zero =>
    intro k i hd hk
    obtain ⟨k, rfl⟩ : ∃ m, k = m + 1 := ⟨k - 1, by omega⟩
    simp only [codec_get_uint32.l0]
    rw [if_neg (by omega), List.take_of_length_le (by simp; omega)]
  | succ d ih =>
    intro k i hd hk
    obtain ⟨k, rfl⟩ : ∃ m, k = m + 1 := ⟨k - 1, by omega⟩
    obtain ⟨b, e1, e2⟩ := take_bt s i (by omega)
    have hb := b.toNat_lt
    have hw : wrap64 ((i : Int) + 1) = ((i + 1 : Nat) : Int) := by unfold wrap64; omega
    have hl : (s.data.toList.take i).length = i := by rw [List.length_take]; simp; omega
    have hx := numN_lt (s.data.toList.take i)
    rw [hl, pow256] at hx
    have hf := byte_fits b.toNat i 4 (by omega) (by omega)
    have hn := ih k (i + 1) (by omega) (by omega)
    have hs8 := shl_nat b.toNat i (by omega) (by omega)
    have h8 : 0 ≤ wrap64 (8 * (i : Int)) := by unfold wrap64; omega
    simp only [codec_get_uint32.l0]
    rw [if_pos (by omega), if_pos (by omega), if_pos (by omega), if_pos h8, e2, hs8, hw]
    have hc : ((b.toNat * 2 ^ (8 * i) : Nat) : Int) % 4294967296 = ((b.toNat * 2 ^ (8 * i) : Nat) : Int) := by
      generalize b.toNat * 2 ^ (8 * i) = m at hf
      omega
    rw [hc, or_join .u32 32 (by decide) (fun n h0 h1 => by rw [IntKind.wrap_u32]; omega) (8 * i) _ b.toNat hx hf (by omega)]
    have h9 : numN (s.data.toList.take i) + b.toNat * 2 ^ (8 * i) = numN (s.data.toList.take (i + 1)) := by rw [e1, numN_snoc, hl, pow256]
    rw [h9]
    exact hn
theorem get16_loop (s : ByteArray) (hs : s.size ≤ 2) (r : ByteArray) (e : Int) (d : Nat) : ∀ (k i : Nat), i + d = s.size → d < k →
    codec_get_uint16.l0 k ((numN (s.data.toList.take i) : Nat) : Int) s (s.size : Int) (i : Int) r e = some (((numN s.data.toList : Nat) : Int), r, e) := by
  induction d with
  | zero =>
    intro k i hd hk
    obtain ⟨k, rfl⟩ : ∃ m, k = m + 1 := ⟨k - 1, by omega⟩
    simp only [codec_get_uint16.l0]
    rw [if_neg (by omega), List.take_of_length_le (by simp; omega)]
  | succ d ih =>
    intro k i hd hk
    obtain ⟨k, rfl⟩ : ∃ m, k = m + 1 := ⟨k - 1, by omega⟩
    obtain ⟨b, e1, e2⟩ := take_bt s i (by omega)
    have hb := b.toNat_lt
    have hw : wrap64 ((i : Int) + 1) = ((i + 1 : Nat) : Int) := by unfold wrap64; omega
    have hl : (s.data.toList.take i).length = i := by rw [List.length_take]; simp; omega
    have hx := numN_lt (s.data.toList.take i)
    rw [hl, pow256] at hx
    have hf := byte_fits b.toNat i 2 (by omega) (by omega)
    have hn := ih k (i + 1) (by omega) (by omega)
    have hs8 := shl_nat b.toNat i (by omega) (by omega)
    have h8 : 0 ≤ wrap64 (8 * (i : Int)) := by unfold wrap64; omega
    simp only [codec_get_uint16.l0]
    rw [if_pos (by omega), if_pos (by omega), if_pos (by omega), if_pos h8, e2, hs8, hw]
    have hc : IntKind.u16.wrap ((b.toNat * 2 ^ (8 * i) : Nat) : Int) = ((b.toNat * 2 ^ (8 * i) : Nat) : Int) := by
      generalize b.toNat * 2 ^ (8 * i) = m at hf
      simp only [IntKind.wrap, IntKind.bits, IntKind.signed]; simp; omega
    rw [hc, or_join .u16 16 (by decide) (fun n h0 h1 => by simp only [IntKind.wrap, IntKind.bits, IntKind.signed]; simp; omega) (8 * i) _ b.toNat hx hf (by omega)]
    have h9 : numN (s.data.toList.take i) + b.toNat * 2 ^ (8 * i) = numN (s.data.toList.take (i + 1)) := by rw [e1, numN_snoc, hl, pow256]
    rw [h9]
    exact hn
theorem get8_loop (s : ByteArray) (hs : s.size ≤ 1) (r : ByteArray) (e : Int) (d : Nat) : ∀ (k i : Nat), i + d = s.size → d < k →
    codec_get_uint8.l0 k ((numN (s.data.toList.take i) : Nat) : Int) s (s.size : Int) (i : Int) r e = some (((numN s.data.toList : Nat) : Int), r, e) := by
  induction d with
  | zero =>
    intro k i hd hk
    obtain ⟨k, rfl⟩ : ∃ m, k = m + 1 := ⟨k - 1, by omega⟩
    simp only [codec_get_uint8.l0]
    rw [if_neg (by omega), List.take_of_length_le (by simp; omega)]
  | succ d ih =>
    intro k i hd hk
    obtain ⟨k, rfl⟩ : ∃ m, k = m + 1 := ⟨k - 1, by omega⟩
    obtain ⟨b, e1, e2⟩ := take_bt s i (by omega)
    have hb := b.toNat_lt
    have hw : wrap64 ((i : Int) + 1) = ((i + 1 : Nat) : Int) := by unfold wrap64; omega
    have hl : (s.data.toList.take i).length = i := by rw [List.length_take]; simp; omega
    have hx := numN_lt (s.data.toList.take i)
    rw [hl, pow256] at hx
    have hf := byte_fits b.toNat i 1 (by omega) (by omega)
    have hn := ih k (i + 1) (by omega) (by omega)
    have hs8 := shl_nat b.toNat i (by omega) (by omega)
    have h8 : 0 ≤ wrap64 (8 * (i : Int)) := by unfold wrap64; omega
    simp only [codec_get_uint8.l0]
    rw [if_pos (by omega), if_pos (by omega), if_pos (by omega), if_pos h8, e2, hs8, hw]
    have hc : ((b.toNat * 2 ^ (8 * i) : Nat) : Int) % 256 = ((b.toNat * 2 ^ (8 * i) : Nat) : Int) := by
      generalize b.toNat * 2 ^ (8 * i) = m at hf
      omega
    rw [hc, or_join .u8 8 (by decide) (fun n h0 h1 => by rw [IntKind.wrap_u8]; omega) (8 * i) _ b.toNat hx hf (by omega)]
    have h9 : numN (s.data.toList.take i) + b.toNat * 2 ^ (8 * i) = numN (s.data.toList.take (i + 1)) := by rw [e1, numN_snoc, hl, pow256]
    rw [h9]
    exact hn
/-! ### a reader, over what is left of a text (none: it was torn) -/
def bs (l : List UInt8) : ByteArray := ⟨l.toArray⟩
theorem bs_size (l : List UInt8) : (bs l).size = l.length := by simp [bs, ByteArray.size]
theorem bs_of (s : ByteArray) : bs s.data.toList = s := by apply ByteArray.ext; simp [bs]
theorem bs_list (l : List UInt8) : (bs l).data.toList = l := by simp [bs]
theorem bs_toList (l : List UInt8) : (bs l).toList = l := by rw [ByteArray.toList_eq]; simp [bs]
theorem bs_extract (l : List UInt8) (a b : Nat) : (bs l).extract a b = bs ((l.take b).drop a) := by
  apply ByteArray.ext
  simp only [bs, ByteArray.data_extract, List.extract_toArray, List.extract_eq_take_drop, List.drop_take]
theorem bs_append (a b : List UInt8) : bs a ++ bs b = bs (a ++ b) := by apply ByteArray.ext; simp [bs, ByteArray.data_append]
def st : Option (List UInt8) → ByteArray × Int
  | some l => (bs l, 0)
  | none => (bs [], 10)
def g (w : Nat) : Option (List UInt8) → Int × Option (List UInt8)
  | some l => if w ≤ l.length then (((numN (l.take w) : Nat) : Int), some (l.drop w)) else (0, none)
  | none => (0, none)
theorem g_yes (w : Nat) (l : List UInt8) (h : w ≤ l.length) : g w (some l) = (((numN (l.take w) : Nat) : Int), some (l.drop w)) := if_pos h
theorem g_no (w : Nat) (l : List UInt8) (h : ¬ w ≤ l.length) : g w (some l) = (0, none) := if_neg h
theorem take_some (l : List UInt8) (w : Nat) (hw : w ≤ 8) (hl : l.length ≤ 100000) (h : w ≤ l.length) : codec_left_take.f (bs l) 0 (w : Int) = some (bs (l.take w), true, bs (l.drop w), 0) := by
  have e : IntKind.u64.wrap (((bs l).size : Int)) = (l.length : Int) := by rw [bs_size]; exact IntWalk.u64_in _ ⟨by omega, by omega⟩
  unfold codec_left_take.f
  rw [if_pos rfl, e, if_neg (by omega), if_pos (by omega), if_pos (by rw [bs_size]; omega), Int.toNat_natCast, bs_extract, bs_extract, List.drop_zero, bs_size, List.take_length]
theorem take_torn (l : List UInt8) (w : Nat) (hl : l.length ≤ 100000) (h : ¬ w ≤ l.length) : codec_left_take.f (bs l) 0 (w : Int) = some (bs [], false, bs [], 10) := by
  have e : IntKind.u64.wrap (((bs l).size : Int)) = (l.length : Int) := by rw [bs_size]; exact IntWalk.u64_in _ ⟨by omega, by omega⟩
  unfold codec_left_take.f codec_left_fail.f
  rw [if_pos rfl, e, if_pos (by omega), if_pos rfl, Option.bind_some]
  rfl
theorem take_none (w : Int) : codec_left_take.f (bs []) 10 w = some (bs [], false, bs [], 10) := by
  unfold codec_left_take.f
  rw [if_neg (by decide)]
  rfl
def small (r : Option (List UInt8)) : Prop := ∀ l, r = some l → l.length ≤ 100000
theorem g_small (w : Nat) (r : Option (List UInt8)) (h : small r) : small (g w r).2 := by
  intro l hl
  cases r with
  | none => simp [g] at hl
  | some l0 =>
    by_cases hw : w ≤ l0.length
    · rw [g_yes w l0 hw] at hl
      simp at hl
      have := h l0 rfl
      rw [← hl, List.length_drop]; omega
    · rw [g_no w l0 hw] at hl
      simp at hl
theorem read64 (r : Option (List UInt8)) (h : small r) (k : Nat) (hk : 20 < k) : codec_Reader_U64.f k (st r).1 (st r).2 = some ((g 8 r).1, (st (g 8 r).2).1, (st (g 8 r).2).2) := by
  have ew : IntKind.u64.wrap (8 : Int) = ((8 : Nat) : Int) := IntWalk.u64_in _ ⟨by decide, by decide⟩
  have z : codec_get_uint64.l0 k 0 (bs []) ((bs []).size : Int) 0 (bs []) 10 = some (0, bs [], 10) := by
    have := get64_loop (bs []) (by decide) (bs []) 10 0 k 0 (by decide) (by omega)
    simpa [bs_list, numN] using this
  unfold codec_Reader_U64.f codec_get_uint64.f
  cases r with
  | none =>
    show ((codec_left_take.f (bs []) 10 _).bind _).bind _ = _
    rw [take_none, Option.bind_some, z, Option.bind_some]
    rfl
  | some l =>
    have hl := h l rfl
    show ((codec_left_take.f (bs l) 0 _).bind _).bind _ = _
    rw [ew]
    by_cases hw : 8 ≤ l.length
    · have hg := g_yes 8 l hw
      rw [take_some l 8 (by decide) hl hw, Option.bind_some, hg]
      have hsz : (bs (l.take 8)).size = 8 := by rw [bs_size, List.length_take]; omega
      have := get64_loop (bs (l.take 8)) (by omega) (bs (l.drop 8)) 0 8 k 0 (by omega) (by omega)
      rw [List.take_zero, bs_list] at this
      rw [show ((0 : Nat) : Int) = 0 from rfl, show numN [] = 0 from rfl, show ((0 : Nat) : Int) = 0 from rfl] at this
      show (codec_get_uint64.l0 k 0 (bs (l.take 8)) ((bs (l.take 8)).size : Int) 0 (bs (l.drop 8)) 0).bind _ = _
      rw [this, Option.bind_some]
      rfl
    · have hg := g_no 8 l hw
      rw [take_torn l 8 hl hw, Option.bind_some, hg]
      show (codec_get_uint64.l0 k 0 (bs []) ((bs []).size : Int) 0 (bs []) 10).bind _ = _
      rw [z, Option.bind_some]
      rfl
theorem read32 (r : Option (List UInt8)) (h : small r) (k : Nat) (hk : 20 < k) : codec_Reader_U32.f k (st r).1 (st r).2 = some ((g 4 r).1, (st (g 4 r).2).1, (st (g 4 r).2).2) := by
  have ew : IntKind.u64.wrap (4 : Int) = ((4 : Nat) : Int) := IntWalk.u64_in _ ⟨by decide, by decide⟩
  have z : codec_get_uint32.l0 k 0 (bs []) ((bs []).size : Int) 0 (bs []) 10 = some (0, bs [], 10) := by
    have := get32_loop (bs []) (by decide) (bs []) 10 0 k 0 (by decide) (by omega)
    simpa [bs_list, numN] using this
  unfold codec_Reader_U32.f codec_get_uint32.f
  cases r with
  | none =>
    show ((codec_left_take.f (bs []) 10 _).bind _).bind _ = _
    rw [take_none, Option.bind_some, z, Option.bind_some]
    rfl
  | some l =>
    have hl := h l rfl
    show ((codec_left_take.f (bs l) 0 _).bind _).bind _ = _
    rw [ew]
    by_cases hw : 4 ≤ l.length
    · have hg := g_yes 4 l hw
      rw [take_some l 4 (by decide) hl hw, Option.bind_some, hg]
      have hsz : (bs (l.take 4)).size = 4 := by rw [bs_size, List.length_take]; omega
      have := get32_loop (bs (l.take 4)) (by omega) (bs (l.drop 4)) 0 4 k 0 (by omega) (by omega)
      rw [List.take_zero, bs_list] at this
      rw [show ((0 : Nat) : Int) = 0 from rfl, show numN [] = 0 from rfl, show ((0 : Nat) : Int) = 0 from rfl] at this
      show (codec_get_uint32.l0 k 0 (bs (l.take 4)) ((bs (l.take 4)).size : Int) 0 (bs (l.drop 4)) 0).bind _ = _
      rw [this, Option.bind_some]
      rfl
    · have hg := g_no 4 l hw
      rw [take_torn l 4 hl hw, Option.bind_some, hg]
      show (codec_get_uint32.l0 k 0 (bs []) ((bs []).size : Int) 0 (bs []) 10).bind _ = _
      rw [z, Option.bind_some]
      rfl
theorem read16 (r : Option (List UInt8)) (h : small r) (k : Nat) (hk : 20 < k) : codec_Reader_U16.f k (st r).1 (st r).2 = some ((g 2 r).1, (st (g 2 r).2).1, (st (g 2 r).2).2) := by
  have ew : IntKind.u64.wrap (2 : Int) = ((2 : Nat) : Int) := IntWalk.u64_in _ ⟨by decide, by decide⟩
  have z : codec_get_uint16.l0 k 0 (bs []) ((bs []).size : Int) 0 (bs []) 10 = some (0, bs [], 10) := by
    have := get16_loop (bs []) (by decide) (bs []) 10 0 k 0 (by decide) (by omega)
    simpa [bs_list, numN] using this
  unfold codec_Reader_U16.f codec_get_uint16.f
  cases r with
  | none =>
    show ((codec_left_take.f (bs []) 10 _).bind _).bind _ = _
    rw [take_none, Option.bind_some, z, Option.bind_some]
    rfl
  | some l =>
    have hl := h l rfl
    show ((codec_left_take.f (bs l) 0 _).bind _).bind _ = _
    rw [ew]
    by_cases hw : 2 ≤ l.length
    · have hg := g_yes 2 l hw
      rw [take_some l 2 (by decide) hl hw, Option.bind_some, hg]
      have hsz : (bs (l.take 2)).size = 2 := by rw [bs_size, List.length_take]; omega
      have := get16_loop (bs (l.take 2)) (by omega) (bs (l.drop 2)) 0 2 k 0 (by omega) (by omega)
      rw [List.take_zero, bs_list] at this
      rw [show ((0 : Nat) : Int) = 0 from rfl, show numN [] = 0 from rfl, show ((0 : Nat) : Int) = 0 from rfl] at this
      show (codec_get_uint16.l0 k 0 (bs (l.take 2)) ((bs (l.take 2)).size : Int) 0 (bs (l.drop 2)) 0).bind _ = _
      rw [this, Option.bind_some]
      rfl
    · have hg := g_no 2 l hw
      rw [take_torn l 2 hl hw, Option.bind_some, hg]
      show (codec_get_uint16.l0 k 0 (bs []) ((bs []).size : Int) 0 (bs []) 10).bind _ = _
      rw [z, Option.bind_some]
      rfl
theorem read8 (r : Option (List UInt8)) (h : small r) (k : Nat) (hk : 20 < k) : codec_Reader_U8.f k (st r).1 (st r).2 = some ((g 1 r).1, (st (g 1 r).2).1, (st (g 1 r).2).2) := by
  have ew : IntKind.u64.wrap (1 : Int) = ((1 : Nat) : Int) := IntWalk.u64_in _ ⟨by decide, by decide⟩
  have z : codec_get_uint8.l0 k 0 (bs []) ((bs []).size : Int) 0 (bs []) 10 = some (0, bs [], 10) := by
    have := get8_loop (bs []) (by decide) (bs []) 10 0 k 0 (by decide) (by omega)
    simpa [bs_list, numN] using this
  unfold codec_Reader_U8.f codec_get_uint8.f
  cases r with
  | none =>
    show ((codec_left_take.f (bs []) 10 _).bind _).bind _ = _
    rw [take_none, Option.bind_some, z, Option.bind_some]
    rfl
  | some l =>
    have hl := h l rfl
    show ((codec_left_take.f (bs l) 0 _).bind _).bind _ = _
    rw [ew]
    by_cases hw : 1 ≤ l.length
    · have hg := g_yes 1 l hw
      rw [take_some l 1 (by decide) hl hw, Option.bind_some, hg]
      have hsz : (bs (l.take 1)).size = 1 := by rw [bs_size, List.length_take]; omega
      have := get8_loop (bs (l.take 1)) (by omega) (bs (l.drop 1)) 0 1 k 0 (by omega) (by omega)
      rw [List.take_zero, bs_list] at this
      rw [show ((0 : Nat) : Int) = 0 from rfl, show numN [] = 0 from rfl, show ((0 : Nat) : Int) = 0 from rfl] at this
      show (codec_get_uint8.l0 k 0 (bs (l.take 1)) ((bs (l.take 1)).size : Int) 0 (bs (l.drop 1)) 0).bind _ = _
      rw [this, Option.bind_some]
      rfl
    · have hg := g_no 1 l hw
      rw [take_torn l 1 hl hw, Option.bind_some, hg]
      show (codec_get_uint8.l0 k 0 (bs []) ((bs []).size : Int) 0 (bs []) 10).bind _ = _
      rw [z, Option.bind_some]
      rfl
/-! ### the next frame -/
def sumOf (l : List UInt8) (n : Nat) : Nat := updN (updN 0 (bs (l.take 2))) (bs ((l.drop 6).take n))
def nextN (l : List UInt8) : List UInt8 × Int × Int :=
  if l.length < 6 then ([], 0, 10)
  else if 4096 < numN (l.take 2) then ([], 0, 3)
  else if (l.drop 6).length < numN (l.take 2) then ([], 0, 10)
  else if sumOf l (numN (l.take 2)) ≠ numN ((l.drop 2).take 4) then ([], 0, 9)
  else ((l.drop 6).take (numN (l.take 2)), ((6 + numN (l.take 2) : Nat) : Int), 0)
theorem next_f (l : List UInt8) (hl : l.length ≤ 100000) (k : Nat) (hk : 100010 < k) : frame_Next.f k (bs l) = some (bs (nextN l).1, (nextN l).2.1, (nextN l).2.2) := by
  unfold frame_Next.f nextN
  rw [bs_size]
  by_cases h6 : l.length < 6
  · rw [if_pos (by omega), if_pos h6]; rfl
  · rw [if_neg (by omega), if_neg h6]
    have r1 := read16 (some l) (fun x hx => by cases hx; exact hl) k (by omega)
    have g1 := g_yes 2 l (by omega)
    rw [g1] at r1
    have r2 := read32 (some (l.drop 2)) (fun x hx => by cases hx; rw [List.length_drop]; omega) k (by omega)
    have g2 := g_yes 4 (l.drop 2) (by rw [List.length_drop]; omega)
    rw [g2] at r2
    have nl : numN (l.take 2) < 65536 := by
      have := numN_lt (l.take 2)
      rw [List.length_take, Nat.min_eq_left (by omega)] at this
      exact this
    have d6 : (l.drop 2).drop 4 = l.drop 6 := by rw [List.drop_drop]
    rw [d6] at r2
    have ew : wrap64 ((numN (l.take 2) : Nat) : Int) = ((numN (l.take 2) : Nat) : Int) := by unfold wrap64; omega
    unfold codec_New.f codec_Reader_Rest.f
    rw [Option.bind_some]
    have r1' : codec_Reader_U16.f k (bs l) 0 = some (((numN (l.take 2) : Nat) : Int), bs (l.drop 2), 0) := r1
    have r2' : codec_Reader_U32.f k (bs (l.drop 2)) 0 = some (((numN ((l.drop 2).take 4) : Nat) : Int), bs (l.drop 6), 0) := r2
    rw [r1', Option.bind_some, r2', Option.bind_some, Option.bind_some]
    show (if wrap64 ((numN (l.take 2) : Nat) : Int) > 4096 then _ else _) = _
    rw [ew]
    by_cases c1 : 4096 < numN (l.take 2)
    · rw [if_pos (by omega), if_pos c1]; rfl
    · rw [if_neg (by omega), if_neg c1, bs_size]
      by_cases c2 : (l.drop 6).length < numN (l.take 2)
      · rw [if_pos (by omega), if_pos c2]; rfl
      · rw [if_neg (by omega), if_neg c2, if_pos (by decide), if_pos (by omega)]
        have e0 : (bs l).extract 0 2 = bs (l.take 2) := by rw [bs_extract, List.drop_zero]
        have e1 : (bs (l.drop 6)).extract 0 (((numN (l.take 2) : Nat) : Int)).toNat = bs ((l.drop 6).take (numN (l.take 2))) := by rw [Int.toNat_natCast, bs_extract, List.drop_zero]
        have sz2 : (bs (l.take 2)).size < k := by rw [bs_size, List.length_take]; omega
        have szn : (bs ((l.drop 6).take (numN (l.take 2)))).size < k := by rw [bs_size, List.length_take]; omega
        have z2 : (bs (l.take 2)).size < 9223372036854775807 := by rw [bs_size, List.length_take]; omega
        have zn : (bs ((l.drop 6).take (numN (l.take 2)))).size < 9223372036854775807 := by rw [bs_size, List.length_take]; omega
        rw [e0, sum_f _ z2 k sz2, Option.bind_some, if_pos (by omega), if_pos (by omega), e1, update_f _ (updN_lt 0 _ (by decide)) _ zn k szn, Option.bind_some]
        by_cases c3 : sumOf l (numN (l.take 2)) ≠ numN ((l.drop 2).take 4)
        · rw [if_neg (by intro h; exact c3 (Int.ofNat.inj h)), if_pos c3]; rfl
        · have c4 : updN (updN 0 (bs (l.take 2))) (bs ((l.drop 6).take (numN (l.take 2)))) = numN ((l.drop 2).take 4) := Decidable.not_not.1 c3
          rw [if_pos (by rw [c4]), if_neg c3]
          rw [show wrap64 (6 + ((numN (l.take 2) : Nat) : Int)) = ((6 + numN (l.take 2) : Nat) : Int) by unfold wrap64; omega]
/-! ### numbers back -/
def enc (xs : List Int) : List UInt8 := xs.map fun n => UInt8.ofNat n.toNat
theorem str_bs (xs : List Int) : strOfNums xs = bs (enc xs) := rfl
theorem enc_append (a b : List Int) : enc (a ++ b) = enc a ++ enc b := List.map_append
theorem enc_len (a : List Int) : (enc a).length = a.length := List.length_map _
theorem leN (n w : Nat) : Wr.leBytes (n : Int) (w + 1) = ((n % 256 : Nat) : Int) :: Wr.leBytes ((n / 256 : Nat) : Int) w := by
  unfold Wr.leBytes
  rw [List.range_succ_eq_map, List.map_cons, List.map_map]
  congr 1
  · unfold Wr.byteAt; simp
  · apply List.map_congr_left
    intro i _
    show Wr.byteAt (n : Int) (i + 1) = Wr.byteAt ((n / 256 : Nat) : Int) i
    unfold Wr.byteAt
    have : ((n / 256 : Nat) : Int) = (n : Int) / 256 := by omega
    rw [this, Int.ediv_ediv_of_nonneg (by decide)]
    have e : (256 : Int) * 2 ^ (8 * i) = 2 ^ (8 * (i + 1)) := by rw [Nat.mul_add, Int.pow_add, Int.mul_comm]; rfl
    rw [e]
theorem num_le (w : Nat) : ∀ n : Nat, n < 256 ^ w → numN (enc (Wr.leBytes (n : Int) w)) = n := by
  induction w with
  | zero => intro n h; simp [Wr.leBytes, enc, numN] at *; omega
  | succ w ih =>
    intro n h
    rw [leN]
    show (UInt8.ofNat ((n % 256 : Nat) : Int).toNat).toNat + 256 * numN (enc (Wr.leBytes ((n / 256 : Nat) : Int) w)) = n
    rw [ih (n / 256) (by rw [Nat.pow_succ] at h; omega), Int.toNat_natCast]
    have : (UInt8.ofNat (n % 256)).toNat = n % 256 := by simp
    rw [this]; omega
theorem le_num (l : List UInt8) : enc (Wr.leBytes ((numN l : Nat) : Int) l.length) = l := by
  induction l with
  | nil => rfl
  | cons b l ih =>
    have hb := b.toNat_lt
    rw [List.length_cons, leN]
    have e1 : numN (b :: l) % 256 = b.toNat := by simp only [numN]; omega
    have e2 : numN (b :: l) / 256 = numN l := by simp only [numN]; omega
    rw [e1, e2]
    show UInt8.ofNat ((b.toNat : Nat) : Int).toNat :: enc (Wr.leBytes ((numN l : Nat) : Int) l.length) = b :: l
    rw [ih, Int.toNat_natCast]
    congr 1
    simp
theorem enc_le_len (n : Int) (w : Nat) : (enc (Wr.leBytes n w)).length = w := by rw [enc_len, Wr.leBytes_len]
theorem g_enc (w : Nat) (n : Int) (h0 : 0 ≤ n) (h1 : n < ((256 ^ w : Nat) : Int)) (l : List UInt8) : g w (some (enc (Wr.leBytes n w) ++ l)) = (n, some l) := by
  obtain ⟨m, rfl⟩ := Int.eq_ofNat_of_zero_le h0
  have hl := enc_le_len (m : Int) w
  rw [g_yes w _ (by rw [List.length_append, hl]; omega), List.take_left' hl, List.drop_left' hl, num_le w m (by omega)]
theorem g_enc8 (n : Int) (h : 0 ≤ n ∧ n < 18446744073709551616) (l : List UInt8) : g 8 (some (enc (Wr.leBytes n 8) ++ l)) = (n, some l) := g_enc 8 n h.1 (by rw [show ((256 ^ 8 : Nat) : Int) = 18446744073709551616 from rfl]; exact h.2) l
theorem g_enc1 (n : Int) (h0 : 0 ≤ n) (h1 : n < 256) (l : List UInt8) : g 1 (some (enc (Wr.leBytes n 1) ++ l)) = (n, some l) := g_enc 1 n h0 (by rw [show ((256 ^ 1 : Nat) : Int) = 256 from rfl]; exact h1) l
theorem frame_list (a : List UInt8) : frameN (bs a) = bs (enc (headN (bs a)) ++ a) := by
  unfold frameN
  rw [str_bs, bs_append]
theorem next_frame (a : List UInt8) (ha : a.length ≤ 4096) : nextN (enc (headN (bs a)) ++ a) = (a, ((6 + a.length : Nat) : Int), 0) := by
  have hs : (bs a).size = a.length := bs_size a
  have h2 := updN_lt 0 (strOfNums (Wr.leBytes (a.length : Int) 2) ++ bs a) (by decide)
  have E : enc (headN (bs a)) ++ a = enc (Wr.leBytes (a.length : Int) 2) ++ (enc (Wr.leBytes ((updN 0 (strOfNums (Wr.leBytes (a.length : Int) 2) ++ bs a) : Nat) : Int) 4) ++ a) := by
    unfold headN
    rw [hs, enc_append, List.append_assoc]
  have l2 := enc_le_len (a.length : Int) 2
  have l4 := enc_le_len ((updN 0 (strOfNums (Wr.leBytes (a.length : Int) 2) ++ bs a) : Nat) : Int) 4
  have t2 : (enc (headN (bs a)) ++ a).take 2 = enc (Wr.leBytes (a.length : Int) 2) := by rw [E, List.take_left' l2]
  have d2 : (enc (headN (bs a)) ++ a).drop 2 = enc (Wr.leBytes ((updN 0 (strOfNums (Wr.leBytes (a.length : Int) 2) ++ bs a) : Nat) : Int) 4) ++ a := by rw [E, List.drop_left' l2]
  have d6 : (enc (headN (bs a)) ++ a).drop 6 = a := by
    rw [show 6 = 2 + 4 from rfl, ← List.drop_drop, d2, List.drop_left' l4]
  have len : (enc (headN (bs a)) ++ a).length = 6 + a.length := by rw [E, List.length_append, List.length_append, l2, l4]; omega
  have n2 : numN (enc (Wr.leBytes (a.length : Int) 2)) = a.length := num_le 2 a.length (by omega)
  have n4 : numN (enc (Wr.leBytes ((updN 0 (strOfNums (Wr.leBytes (a.length : Int) 2) ++ bs a) : Nat) : Int) 4)) = updN 0 (strOfNums (Wr.leBytes (a.length : Int) 2) ++ bs a) := num_le 4 _ (by omega)
  unfold nextN sumOf
  rw [len, t2, d2, d6, n2, List.take_left' l4, n4, List.take_length, updN_append, ← str_bs]
  rw [if_neg (by omega), if_neg (by omega), if_neg (by omega), if_neg (by simp)]
theorem next_inv (l : List UInt8) (h0 : (nextN l).2.2 = 0) (h1 : (nextN l).2.1 = (l.length : Int)) : (nextN l).1.length ≤ 4096 ∧ bs l = frameN (bs (nextN l).1) := by
  unfold nextN at h0 h1 ⊢
  by_cases c0 : l.length < 6
  · rw [if_pos c0] at h0; simp at h0
  · rw [if_neg c0] at h0 h1 ⊢
    by_cases c1 : 4096 < numN (l.take 2)
    · rw [if_pos c1] at h0; simp at h0
    · rw [if_neg c1] at h0 h1 ⊢
      by_cases c2 : (l.drop 6).length < numN (l.take 2)
      · rw [if_pos c2] at h0; simp at h0
      · rw [if_neg c2] at h0 h1 ⊢
        by_cases c3 : sumOf l (numN (l.take 2)) ≠ numN ((l.drop 2).take 4)
        · rw [if_pos c3] at h0; simp at h0
        · rw [if_neg c3] at h0 h1 ⊢
          have c4 := Decidable.not_not.1 c3
          dsimp only at h1 ⊢
          have hn : numN (l.take 2) = (l.drop 6).length := by rw [List.length_drop]; omega
          rw [hn] at c4 ⊢
          rw [List.take_length]
          refine ⟨by omega, ?_⟩
          unfold sumOf at c4
          rw [List.take_length, updN_append] at c4
          have hl2 : (l.take 2).length = 2 := by rw [List.length_take]; omega
          have hl4 : ((l.drop 2).take 4).length = 4 := by rw [List.length_take, List.length_drop]; omega
          have e2 := le_num (l.take 2)
          have e4 := le_num ((l.drop 2).take 4)
          rw [hl2, hn] at e2
          rw [hl4, ← c4] at e4
          rw [frame_list]
          unfold headN
          rw [bs_size, enc_append, str_bs, e2, e4, List.append_assoc]
          have d : (l.drop 2).take 4 ++ l.drop 6 = l.drop 2 := by
            have := List.take_append_drop 4 (l.drop 2)
            rwa [List.drop_drop] at this
          rw [d, List.take_append_drop]
/-! ### the document's next frame -/
theorem bt_bs (l : List UInt8) (i : Nat) (h : i < l.length) : bt (bs l) (i : Int) = ((l[i]).toNat : Int) := by
  rw [bt_nat (bs l) i (by rw [bs_size]; exact h)]
  simp [bs]
theorem two (l : List UInt8) (h : 6 ≤ l.length) : ((l[0]'(by omega)).toNat : Int) + 256 * ((l[1]'(by omega)).toNat : Int) = ((numN (l.take 2) : Nat) : Int) := by
  match l, h with
  | a :: b :: l, _ => simp [numN]
theorem pair_wrap (a b n : Nat) (ha : a < 256) (hb : b < 256) (h : (a : Int) + 256 * (b : Int) = (n : Int)) : wrap64 (wrap64 (a : Int) + wrap64 (256 * wrap64 (b : Int))) = (n : Int) := by
  rw [← h]; unfold wrap64; omega
/-- What stands behind the head, held against it. -/
theorem head_iff (l : List UInt8) (h6 : 6 ≤ l.length) (n : Nat) (hn : numN (l.take 2) = n) (hd : n ≤ l.length - 6) :
    (enc (headN (bs ((l.drop 6).take n))) = l.take 6) ↔ ¬ sumOf l n ≠ numN ((l.drop 2).take 4) := by
  have hp : ((l.drop 6).take n).length = n := by rw [List.length_take, List.length_drop]; omega
  have hl2 : (l.take 2).length = 2 := by rw [List.length_take]; omega
  have hl4 : ((l.drop 2).take 4).length = 4 := by rw [List.length_take, List.length_drop]; omega
  have t6 : l.take 6 = l.take 2 ++ (l.drop 2).take 4 := by rw [← List.take_add]
  have en2 := le_num (l.take 2)
  rw [hl2, hn] at en2
  have hsum : updN 0 (strOfNums (Wr.leBytes ((n : Nat) : Int) 2) ++ bs ((l.drop 6).take n)) = sumOf l n := by
    unfold sumOf
    rw [updN_append, str_bs, en2]
  have hu := updN_lt 0 (strOfNums (Wr.leBytes ((n : Nat) : Int) 2) ++ bs ((l.drop 6).take n)) (by decide)
  rw [hsum] at hu
  have he : enc (headN (bs ((l.drop 6).take n))) = l.take 2 ++ enc (Wr.leBytes ((sumOf l n : Nat) : Int) 4) := by
    unfold headN
    rw [bs_size, hp, hsum, enc_append, en2]
  rw [he, t6, List.append_cancel_left_eq, Decidable.not_not]
  generalize sumOf l n = c at hu ⊢
  constructor
  · intro h
    have := congrArg numN h
    rwa [num_le 4 c (by omega)] at this
  · intro h
    rw [h]
    have := le_num ((l.drop 2).take 4)
    rwa [hl4] at this
theorem ref_next_at (l : List UInt8) (hl : l.length ≤ 100000) (h6 : 6 ≤ l.length) (n : Nat) (hn : numN (l.take 2) = n) (nl : n < 65536) (X : Int) (hX : X = (n : Int)) (k : Nat) (hk : 60000 < k) :
    (if X > 4096 then (some ((⟨#[]⟩ : ByteArray), (0 : Int), (3 : Int))) else (if (wrap64 ((l.length : Int) - 6)) < X then (some ((⟨#[]⟩ : ByteArray), 0, 10)) else (if 6 ≤ (wrap64 (6 + X)) then (if (wrap64 (6 + X)) ≤ (l.length : Int) then ((hindcastref04_Put.f k ((bs l).extract 6 ((wrap64 (6 + X)) : Int).toNat)).bind fun bt311 => (if 0 ≤ 6 then (if 6 ≤ (bt311.1.size : Int) then (if 6 ≤ (l.length : Int) then (if (bt311.1.extract 0 6).toList = ((bs l).extract 0 6).toList then (some ((bs l).extract 6 ((wrap64 (6 + X)) : Int).toNat, wrap64 (6 + X), 0)) else (some ((⟨#[]⟩ : ByteArray), 0, 9))) else (none)) else (none)) else (none))) else (none)) else (none)))) =
    some (bs (if 4096 < n then ([], (0 : Int), (3 : Int)) else if (l.drop 6).length < n then ([], 0, 10) else if sumOf l n ≠ numN ((l.drop 2).take 4) then ([], 0, 9) else ((l.drop 6).take n, ((6 + n : Nat) : Int), 0)).1,
      (if 4096 < n then (([] : List UInt8), (0 : Int), (3 : Int)) else if (l.drop 6).length < n then ([], 0, 10) else if sumOf l n ≠ numN ((l.drop 2).take 4) then ([], 0, 9) else ((l.drop 6).take n, ((6 + n : Nat) : Int), 0)).2.1,
      (if 4096 < n then (([] : List UInt8), (0 : Int), (3 : Int)) else if (l.drop 6).length < n then ([], 0, 10) else if sumOf l n ≠ numN ((l.drop 2).take 4) then ([], 0, 9) else ((l.drop 6).take n, ((6 + n : Nat) : Int), 0)).2.2) := by
  subst hX
  have e6 : wrap64 ((l.length : Int) - 6) = ((l.length - 6 : Nat) : Int) := by unfold wrap64; omega
  have e7 : wrap64 (6 + (n : Int)) = ((6 + n : Nat) : Int) := by unfold wrap64; omega
  rw [e6, e7, List.length_drop]
  by_cases c1 : 4096 < n
  · rw [if_pos (by omega), if_pos c1]; rfl
  · rw [if_neg (by omega), if_neg c1]
    by_cases c2 : l.length - 6 < n
    · rw [if_pos (by omega), if_pos c2]; rfl
    · rw [if_neg (by omega), if_neg c2, if_pos (by omega), if_pos (by omega), Int.toNat_natCast, bs_extract]
      have ep : (l.take (6 + n)).drop 6 = (l.drop 6).take n := by rw [List.drop_take]; congr 1; omega
      rw [ep]
      have hp : ((l.drop 6).take n).length = n := by rw [List.length_take, List.length_drop]; omega
      have hi := head_iff l h6 n hn (by omega)
      have hh : (enc (headN (bs ((l.drop 6).take n)))).length = 6 := by
        rw [enc_len]; unfold headN; rw [List.length_append, Wr.leBytes_len, Wr.leBytes_len]
      rw [ref_put_f _ (by rw [bs_size, hp]; omega) k (by omega), Option.bind_some]
      dsimp only
      rw [frame_list]
      have x1 : ∀ z : List UInt8, (bs z).extract 0 6 = bs (z.take 6) := fun z => by rw [bs_extract, List.drop_zero]
      rw [if_pos (by decide), if_pos (by rw [bs_size, List.length_append, hh]; omega), if_pos (by omega), x1, x1, bs_toList, bs_toList, List.take_left' hh]
      by_cases c3 : sumOf l n ≠ numN ((l.drop 2).take 4)
      · rw [if_neg (fun h => (hi.1 h) c3), if_pos c3]; rfl
      · rw [if_pos (hi.2 c3), if_neg c3]
theorem ref_next (l : List UInt8) (hl : l.length ≤ 100000) (k : Nat) (hk : 60000 < k) : hindcastref04_Next.f k (bs l) = some (bs (nextN l).1, (nextN l).2.1, (nextN l).2.2) := by
  unfold hindcastref04_Next.f nextN
  rw [bs_size]
  by_cases h6 : l.length < 6
  · rw [if_pos (by omega), if_pos h6]; rfl
  · rw [if_neg (by omega), if_neg h6, if_pos (by omega), if_pos (by omega)]
    have b0 := bt_bs l 0 (by omega)
    have b1 := bt_bs l 1 (by omega)
    have h2 := two l (by omega)
    have n0 := (l[0]'(by omega)).toNat_lt
    have n1 := (l[1]'(by omega)).toNat_lt
    rw [show ((0 : Nat) : Int) = 0 from rfl] at b0
    rw [show ((1 : Nat) : Int) = 1 from rfl] at b1
    have e := pair_wrap _ _ _ n0 n1 h2
    rw [← b0, ← b1] at e
    have nl : numN (l.take 2) < 65536 := by
      have := numN_lt (l.take 2)
      rw [List.length_take, Nat.min_eq_left (by omega)] at this
      exact this
    exact ref_next_at l hl (by omega) (numN (l.take 2)) rfl nl _ e k hk
end Go.Proofs.YtnhjhaphfdlkfaaDoor.SB
/- A Writer inside a struct of its own (record.out): as ..Wr.lean, the block's type being another one. -/
set_option linter.unusedVariables false
namespace Go.Proofs.YtnhjhaphfdlkfaaDoor.Wq
open Go.RowKit Go.Proofs.YtnhjhaphfdlkfaaDoorW.PrintWords Go.Proofs.YtnhjhaphfdlkfaaDoorW.PrintLast Go.Proofs.YtnhjhaphfdlkfaaDoorW.PrintMore
/-- A writer at block g, its row from base on. -/
def IsW (W : World) (base g : Nat) (v : Value) (xs : List Int) : Prop :=
  W.heap[g]? = some (.cells #[v] 144 (0, 0)) ∧ W.ownsRow base 5 1 v xs.length (nums .u8 xs) ∧ base ≤ g
/-- The blocks that a writer may write. -/
def Foot (g : Nat) (v : Value) (k : Nat) : Prop := k = g ∨ v.ownBlock = some k
/-- What a call of the writer leaves. -/
def Wrote (w w' : World) (base g : Nat) (v : Value) (xs : List Int) : Prop :=
  ∃ v', IsW w' base g v' xs ∧ Kept w w' (Foot g v) ∧ Below base w w' ∧ (v'.ownBlock = v.ownBlock ∨ ∃ b, v'.ownBlock = some b ∧ w.heap.size ≤ b)
theorem info5 : (Tryd.prog.info? 5).map (fun i => (i.zero, i.size, i.bytes)) = some (some (.int .u8 0), 1, 1) := by kernel_rfl
theorem own_lt {w : World} {base e n : Nat} {v : Value} {xs : List Value} (h : w.ownsRow base e 1 v n xs) {k : Nat} (hk : v.ownBlock = some k) : k < w.heap.size := by
  rcases h.2 with ⟨rfl, _⟩ | ⟨g, cap, cur, rfl, _, hb, _⟩
  · simp [Value.ownBlock] at hk
  · simp [Value.ownBlock] at hk
    subst hk
    exact blk_lt hb
/-- A writer that has just been made. -/
theorem isw_new (w : World) : IsW (w.alloc (.cells #[.slice none 0 0] 144)) w.heap.size w.heap.size (.slice none 0 0) [] :=
  ⟨heap_alloc_new w _, ⟨rfl, Or.inl ⟨rfl, rfl⟩⟩, Nat.le_refl _⟩
theorem isw_drewN {w : World} {base g : Nat} {v : Value} {xs : List Int} (h : IsW w base g v xs) (n : Nat) : IsW (w.drewN n) base g v xs := h
theorem str_size (xs : List Int) : (strOfNums xs).size = xs.length := by unfold strOfNums ByteArray.size; simp
theorem isw_lt {w : World} {base g : Nat} {v : Value} {xs : List Int} (h : IsW w base g v xs) : g < w.heap.size := blk_lt h.1
theorem isw_ne {w : World} {base g : Nat} {v : Value} {xs : List Int} (h : IsW w base g v xs) : v.ownBlock ≠ some g := by
  intro e
  rcases h.2.1.2 with ⟨rfl, _⟩ | ⟨b, cap, cur, rfl, _, hb, _⟩
  · simp [Value.ownBlock] at e
  · simp [Value.ownBlock] at e
    subst e
    rw [h.1] at hb
    simp at hb
theorem isw_cell {w : World} {base g : Nat} {v : Value} {xs : List Int} (h : IsW w base g v xs) : w.cell? ⟨g, 0, none⟩ = some v := (blk_cell h.1 0).trans rfl
/-- A writer whose field has been stored anew. -/
theorem isw_stored {w1 : World} {base g : Nat} {v v1 : Value} {ys : List Int} (hb : w1.heap[g]? = some (.cells #[v] 144 (0, 0))) (hown : w1.ownsRow base 5 1 v1 ys.length (nums .u8 ys)) (hn : v1.ownBlock ≠ some g) (hge : base ≤ g) :
    IsW (w1.setCell ⟨g, 0, none⟩ v1) base g v1 ys := by
  refine ⟨one_setCell hb, ⟨hown.1, ?_⟩, hge⟩
  rcases hown.2 with h | ⟨b, cap, cur, rfl, h1, h2, h3⟩
  · exact Or.inl h
  · refine Or.inr ⟨b, cap, cur, rfl, h1, ?_, h3⟩
    rw [heap_setCell_other _ _ _ _ (by intro e; apply hn; simp [Value.ownBlock]; exact e)]
    exact h2
theorem own_shape {w : World} {base e n : Nat} {v : Value} {xs : List Value} (h : w.ownsRow base e 1 v (n + 1) xs) : ∃ g cap, v = .slice (some ⟨g, 0, none⟩) (n + 1) cap := by
  rcases h.2 with ⟨_, h0⟩ | ⟨g, cap, cur, rfl, _⟩
  · omega
  · exact ⟨g, cap, rfl⟩
/-- One byte more: the writer's field still holds the elder slice; once the new one is stored, the writer has the byte. -/
theorem wrote_step {w wr w1 : World} {base g : Nat} {v0 v v1 : Value} {xs : List Int} {u : Int}
    (hW : IsW wr base g v xs) (hK : Kept w wr (Foot g v0)) (hB : Below base w wr) (hv : v.ownBlock = v0.ownBlock ∨ ∃ b, v.ownBlock = some b ∧ w.heap.size ≤ b)
    (hown : w1.ownsRow base 5 1 v1 (xs.length + 1) (nums .u8 xs ++ [.int .u8 u])) (hg : (wr.drew).grownBy w1 v.ownBlock) (hat : v1.ownBlock = v.ownBlock ∨ ∃ b, v1.ownBlock = some b ∧ wr.heap.size ≤ b) :
    w1.cell? ⟨g, 0, none⟩ = some v ∧ w1.frozen? ⟨g, 0, none⟩ = false ∧ Wrote w (w1.setCell ⟨g, 0, none⟩ v1) base g v0 (xs ++ [u]) := by
  have hlt := isw_lt hW
  have hne := isw_ne hW
  have hb : w1.heap[g]? = some (.cells #[v] 144 (0, 0)) := (hg.block g hlt (fun e => hne e.symm)).trans hW.1
  refine ⟨(blk_cell hb 0).trans rfl, blk_frozen hb 0, v1, isw_stored hb ?_ ?_ hW.2.2, ?_, ?_, ?_⟩
  · rw [List.length_append, show nums .u8 (xs ++ [u]) = nums .u8 xs ++ [.int .u8 u] by simp [nums]]; exact hown
  · intro e
    rcases hat with h | ⟨b, h, hle⟩
    · exact hne (h.symm.trans e)
    · rw [e] at h; cases h; omega
  · refine Kept.setCell (Kept.of_grown (W := wr.drew) hg hK ?_) (Or.inl (Or.inl rfl)) v1
    intro k hk
    rcases hv with h | ⟨b, h, hle⟩
    · exact Or.inl (Or.inr (h.symm.trans hk))
    · rw [h] at hk; cases hk; exact Or.inr hle
  · refine ((hB.drew).grown hg (Nat.le_trans hW.2.2 (Nat.le_of_lt hlt)) (fun k hk => ?_)).setCell hW.2.2 v1
    rcases hW.2.1.2 with ⟨rfl, _⟩ | ⟨b, cap, cur, rfl, hge, _⟩
    · simp [Value.ownBlock] at hk
    · simp [Value.ownBlock] at hk; omega
  · rcases hat with h | ⟨b, h, hle⟩
    · rw [h]; exact hv
    · exact Or.inr ⟨b, h, Nat.le_trans hK.1 hle⟩
theorem alloc_drew (w : World) (o : Obj) : (w.alloc o).drew = w.drew.alloc o := rfl
/-- A block that was made behind the writer's own is as it was. -/
theorem kept_new {w w' : World} {base g : Nat} {v : Value} {xs : List Int} (h : IsW w base g v xs) (o : Obj) (hk : Kept (w.alloc o) w' (Foot g v)) : w'.heap[w.heap.size]? = some o := by
  refine (hk.2 _ (by simp) (fun hf => ?_)).trans (heap_alloc_new w o)
  rcases hf with hf | hf
  · have := isw_lt h; omega
  · have := own_lt h.2.1 hf; omega
set_option maxHeartbeats 1000000 in
set_option maxRecDepth 100000 in
theorem put64 (n : Int) (h0 : 0 ≤ n) (h1 : n < 18446744073709551616) (base g : Nat) (v : Value) (xs : List Int) (w : World) (hW : IsW w base g v xs) (hl : xs.length ≤ 1000000) :
    Calls Tryd.prog 56 #[.pointer (some ⟨g, 0, none⟩), .int .u64 n, .int .i64 8] w fun e w' => e = .returned (.tuple #[]) ∧ Wrote w w' base g v (xs ++ Wr.leBytes n 8) := by
  have HW := Lib.hid hW
  clear hW
  go_enter Tryd.func56, Tryd.ntmps56
  go_wp2
  go_loopw [6, 10] (fun _ i wr => ∃ k : Nat, k ≤ 8 ∧ i = .int .i64 k ∧ Wrote w wr base g v (xs ++ Wr.leBytes n k)) (fun _ i _ => 8 - (intOf i).toNat)
  case atStart => exact ⟨0, by omega, rfl, v, by simpa [Wr.leBytes] using HW.out, Kept.refl _ _, Below.refl _ _, Or.inl rfl⟩
  case round =>
    obtain ⟨k, hk, rfl, v2, hW2, hK2, hB2, hv2⟩ := hrel
    by_cases hlt : k < 8
    · have hc := isw_cell hW2
      have hg := isw_lt hW2
      have HW2 := Lib.hid hW2
      have HK2 := Lib.hid hK2
      have HV2 := Lib.hid hv2
      have HB2 := Lib.hid hB2
      clear hW2 hK2 hv2 hB2
      have hs8 : Op.shift BinOp.shr IntKind.u64 n IntKind.i64 (IntKind.i64.wrap (8 * (k : Int))) = pure (.int .u64 (n / 2 ^ (8 * k))) := by
        rw [IntWalk.i64_in _ (by omega), shift_shr _ _ _ _ (by omega) (by show 8 * (k : Int) ≤ 64; omega)]
        rw [show (8 * (k : Int)).toNat = 8 * k by omega]
      have hbase : base ≤ wr.heap.size := Nat.le_trans HW2.out.2.2 (Nat.le_of_lt hg)
      have HL := Lib.hid (show ((xs ++ Wr.leBytes n k).length + 1) * 1 ≤ 140737488355328 by rw [List.length_append, Wr.leBytes_len]; omega)
      go_wp2
      go_region_law (rw [alloc_drew]; refine step_append_cells (w0 := wr.drew) base (by rfl) (.tmp 17) (.tmp 23) 72 5 (.int .u8 0) 1 1 (by rfl) Tryd.underlying72 info5 rfl (by decide) (by decide) v2 (xs ++ Wr.leBytes n k).length (nums .u8 (xs ++ Wr.leBytes n k)) [.int .u8 (IntKind.u8.wrap (n / 2 ^ (8 * k)))] (by simp [Act.eval]) (by simp [Act.eval]) rfl (by intro u hu; simp at hu; subst hu; rfl) (by exact HW2.out.2.1) (Below.refl _ _) (by exact hbase) HL.out ?_; intro v1 w1 hown1 _ hg1 hat1; obtain ⟨g1, cap1, rfl⟩ := own_shape hown1; have HW1 := Lib.hid (wrote_step HW2.out HK2.out HB2.out HV2.out hown1 hg1 hat1); have hc1 := HW1.out.1; have hf1 := HW1.out.2.1; clear hown1 hg1 hat1)
      go_wp2
      all_goals
        have HW9 := HW1.out.2.2
        clear hc1 hf1
        rw [IntKind.wrap_u8] at HW9
        refine ⟨⟨k + 1, by omega, by go_num, ?_⟩, by simp [intOf]; omega⟩
        rw [Wr.leBytes_succ, ← List.append_assoc]
        rw [List.length_append] at HW9
        exact HW9
    · go_wp2
      go_end0
      have hk8 : k = 8 := by omega
      subst hk8
      exact ⟨rfl, v2, hW2, hK2, hB2, hv2⟩
set_option maxHeartbeats 1000000 in
set_option maxRecDepth 100000 in
theorem put8 (n : Int) (h0 : 0 ≤ n) (h1 : n < 256) (base g : Nat) (v : Value) (xs : List Int) (w : World) (hW : IsW w base g v xs) (hl : xs.length ≤ 1000000) :
    Calls Tryd.prog 57 #[.pointer (some ⟨g, 0, none⟩), .int .u8 n, .int .i64 1] w fun e w' => e = .returned (.tuple #[]) ∧ Wrote w w' base g v (xs ++ Wr.leBytes n 1) := by
  have HW := Lib.hid hW
  clear hW
  go_enter Tryd.func57, Tryd.ntmps57
  go_wp2
  go_loopw [6, 10] (fun _ i wr => ∃ k : Nat, k ≤ 1 ∧ i = .int .i64 k ∧ Wrote w wr base g v (xs ++ Wr.leBytes n k)) (fun _ i _ => 1 - (intOf i).toNat)
  case atStart => exact ⟨0, by omega, rfl, v, by simpa [Wr.leBytes] using HW.out, Kept.refl _ _, Below.refl _ _, Or.inl rfl⟩
  case round =>
    obtain ⟨k, hk, rfl, v2, hW2, hK2, hB2, hv2⟩ := hrel
    by_cases hlt : k < 1
    · have hc := isw_cell hW2
      have hg := isw_lt hW2
      have HW2 := Lib.hid hW2
      have HK2 := Lib.hid hK2
      have HV2 := Lib.hid hv2
      have HB2 := Lib.hid hB2
      clear hW2 hK2 hv2 hB2
      have hs8 : Op.shift BinOp.shr IntKind.u64 (IntKind.u64.wrap n) IntKind.i64 (IntKind.i64.wrap (8 * (k : Int))) = pure (.int .u64 (n / 2 ^ (8 * k))) := by
        rw [IntWalk.u64_in n ⟨h0, by omega⟩, IntWalk.i64_in _ (by omega), shift_shr _ _ _ _ (by omega) (by show 8 * (k : Int) ≤ 64; omega)]
        rw [show (8 * (k : Int)).toNat = 8 * k by omega]
      have hbase : base ≤ wr.heap.size := Nat.le_trans HW2.out.2.2 (Nat.le_of_lt hg)
      have HL := Lib.hid (show ((xs ++ Wr.leBytes n k).length + 1) * 1 ≤ 140737488355328 by rw [List.length_append, Wr.leBytes_len]; omega)
      go_wp2
      go_region_law (rw [alloc_drew]; refine step_append_cells (w0 := wr.drew) base (by rfl) (.tmp 17) (.tmp 24) 72 5 (.int .u8 0) 1 1 (by rfl) Tryd.underlying72 info5 rfl (by decide) (by decide) v2 (xs ++ Wr.leBytes n k).length (nums .u8 (xs ++ Wr.leBytes n k)) [.int .u8 (IntKind.u8.wrap (n / 2 ^ (8 * k)))] (by simp [Act.eval]) (by simp [Act.eval]) rfl (by intro u hu; simp at hu; subst hu; rfl) (by exact HW2.out.2.1) (Below.refl _ _) (by exact hbase) HL.out ?_; intro v1 w1 hown1 _ hg1 hat1; obtain ⟨g1, cap1, rfl⟩ := own_shape hown1; have HW1 := Lib.hid (wrote_step HW2.out HK2.out HB2.out HV2.out hown1 hg1 hat1); have hc1 := HW1.out.1; have hf1 := HW1.out.2.1; clear hown1 hg1 hat1)
      go_wp2
      all_goals
        have HW9 := HW1.out.2.2
        clear hc1 hf1
        rw [IntKind.wrap_u8] at HW9
        refine ⟨⟨k + 1, by omega, by go_num, ?_⟩, by simp [intOf]; omega⟩
        rw [Wr.leBytes_succ, ← List.append_assoc]
        rw [List.length_append] at HW9
        exact HW9
    · go_wp2
      go_end0
      have hk8 : k = 1 := by omega
      subst hk8
      exact ⟨rfl, v2, hW2, hK2, hB2, hv2⟩
set_option maxHeartbeats 1000000 in
set_option maxRecDepth 100000 in
theorem put16 (n : Int) (h0 : 0 ≤ n) (h1 : n < 65536) (base g : Nat) (v : Value) (xs : List Int) (w : World) (hW : IsW w base g v xs) (hl : xs.length ≤ 1000000) :
    Calls Tryd.prog 80 #[.pointer (some ⟨g, 0, none⟩), .int .u16 n, .int .i64 2] w fun e w' => e = .returned (.tuple #[]) ∧ Wrote w w' base g v (xs ++ Wr.leBytes n 2) := by
  have HW := Lib.hid hW
  clear hW
  go_enter Tryd.func80, Tryd.ntmps80
  go_wp2
  go_loopw [6, 10] (fun _ i wr => ∃ k : Nat, k ≤ 2 ∧ i = .int .i64 k ∧ Wrote w wr base g v (xs ++ Wr.leBytes n k)) (fun _ i _ => 2 - (intOf i).toNat)
  case atStart => exact ⟨0, by omega, rfl, v, by simpa [Wr.leBytes] using HW.out, Kept.refl _ _, Below.refl _ _, Or.inl rfl⟩
  case round =>
    obtain ⟨k, hk, rfl, v2, hW2, hK2, hB2, hv2⟩ := hrel
    by_cases hlt : k < 2
    · have hc := isw_cell hW2
      have hg := isw_lt hW2
      have HW2 := Lib.hid hW2
      have HK2 := Lib.hid hK2
      have HV2 := Lib.hid hv2
      have HB2 := Lib.hid hB2
      clear hW2 hK2 hv2 hB2
      have hs8 : Op.shift BinOp.shr IntKind.u64 (IntKind.u64.wrap n) IntKind.i64 (IntKind.i64.wrap (8 * (k : Int))) = pure (.int .u64 (n / 2 ^ (8 * k))) := by
        rw [IntWalk.u64_in n ⟨h0, by omega⟩, IntWalk.i64_in _ (by omega), shift_shr _ _ _ _ (by omega) (by show 8 * (k : Int) ≤ 64; omega)]
        rw [show (8 * (k : Int)).toNat = 8 * k by omega]
      have hbase : base ≤ wr.heap.size := Nat.le_trans HW2.out.2.2 (Nat.le_of_lt hg)
      have HL := Lib.hid (show ((xs ++ Wr.leBytes n k).length + 1) * 1 ≤ 140737488355328 by rw [List.length_append, Wr.leBytes_len]; omega)
      go_wp2
      go_region_law (rw [alloc_drew]; refine step_append_cells (w0 := wr.drew) base (by rfl) (.tmp 17) (.tmp 24) 72 5 (.int .u8 0) 1 1 (by rfl) Tryd.underlying72 info5 rfl (by decide) (by decide) v2 (xs ++ Wr.leBytes n k).length (nums .u8 (xs ++ Wr.leBytes n k)) [.int .u8 (IntKind.u8.wrap (n / 2 ^ (8 * k)))] (by simp [Act.eval]) (by simp [Act.eval]) rfl (by intro u hu; simp at hu; subst hu; rfl) (by exact HW2.out.2.1) (Below.refl _ _) (by exact hbase) HL.out ?_; intro v1 w1 hown1 _ hg1 hat1; obtain ⟨g1, cap1, rfl⟩ := own_shape hown1; have HW1 := Lib.hid (wrote_step HW2.out HK2.out HB2.out HV2.out hown1 hg1 hat1); have hc1 := HW1.out.1; have hf1 := HW1.out.2.1; clear hown1 hg1 hat1)
      go_wp2
      all_goals
        have HW9 := HW1.out.2.2
        clear hc1 hf1
        rw [IntKind.wrap_u8] at HW9
        refine ⟨⟨k + 1, by omega, by go_num, ?_⟩, by simp [intOf]; omega⟩
        rw [Wr.leBytes_succ, ← List.append_assoc]
        rw [List.length_append] at HW9
        exact HW9
    · go_wp2
      go_end0
      have hk8 : k = 2 := by omega
      subst hk8
      exact ⟨rfl, v2, hW2, hK2, hB2, hv2⟩
set_option maxHeartbeats 1000000 in
set_option maxRecDepth 100000 in
theorem put32 (n : Int) (h0 : 0 ≤ n) (h1 : n < 4294967296) (base g : Nat) (v : Value) (xs : List Int) (w : World) (hW : IsW w base g v xs) (hl : xs.length ≤ 1000000) :
    Calls Tryd.prog 81 #[.pointer (some ⟨g, 0, none⟩), .int .u32 n, .int .i64 4] w fun e w' => e = .returned (.tuple #[]) ∧ Wrote w w' base g v (xs ++ Wr.leBytes n 4) := by
  have HW := Lib.hid hW
  clear hW
  go_enter Tryd.func81, Tryd.ntmps81
  go_wp2
  go_loopw [6, 10] (fun _ i wr => ∃ k : Nat, k ≤ 4 ∧ i = .int .i64 k ∧ Wrote w wr base g v (xs ++ Wr.leBytes n k)) (fun _ i _ => 4 - (intOf i).toNat)
  case atStart => exact ⟨0, by omega, rfl, v, by simpa [Wr.leBytes] using HW.out, Kept.refl _ _, Below.refl _ _, Or.inl rfl⟩
  case round =>
    obtain ⟨k, hk, rfl, v2, hW2, hK2, hB2, hv2⟩ := hrel
    by_cases hlt : k < 4
    · have hc := isw_cell hW2
      have hg := isw_lt hW2
      have HW2 := Lib.hid hW2
      have HK2 := Lib.hid hK2
      have HV2 := Lib.hid hv2
      have HB2 := Lib.hid hB2
      clear hW2 hK2 hv2 hB2
      have hs8 : Op.shift BinOp.shr IntKind.u64 (IntKind.u64.wrap n) IntKind.i64 (IntKind.i64.wrap (8 * (k : Int))) = pure (.int .u64 (n / 2 ^ (8 * k))) := by
        rw [IntWalk.u64_in n ⟨h0, by omega⟩, IntWalk.i64_in _ (by omega), shift_shr _ _ _ _ (by omega) (by show 8 * (k : Int) ≤ 64; omega)]
        rw [show (8 * (k : Int)).toNat = 8 * k by omega]
      have hbase : base ≤ wr.heap.size := Nat.le_trans HW2.out.2.2 (Nat.le_of_lt hg)
      have HL := Lib.hid (show ((xs ++ Wr.leBytes n k).length + 1) * 1 ≤ 140737488355328 by rw [List.length_append, Wr.leBytes_len]; omega)
      go_wp2
      go_region_law (rw [alloc_drew]; refine step_append_cells (w0 := wr.drew) base (by rfl) (.tmp 17) (.tmp 24) 72 5 (.int .u8 0) 1 1 (by rfl) Tryd.underlying72 info5 rfl (by decide) (by decide) v2 (xs ++ Wr.leBytes n k).length (nums .u8 (xs ++ Wr.leBytes n k)) [.int .u8 (IntKind.u8.wrap (n / 2 ^ (8 * k)))] (by simp [Act.eval]) (by simp [Act.eval]) rfl (by intro u hu; simp at hu; subst hu; rfl) (by exact HW2.out.2.1) (Below.refl _ _) (by exact hbase) HL.out ?_; intro v1 w1 hown1 _ hg1 hat1; obtain ⟨g1, cap1, rfl⟩ := own_shape hown1; have HW1 := Lib.hid (wrote_step HW2.out HK2.out HB2.out HV2.out hown1 hg1 hat1); have hc1 := HW1.out.1; have hf1 := HW1.out.2.1; clear hown1 hg1 hat1)
      go_wp2
      all_goals
        have HW9 := HW1.out.2.2
        clear hc1 hf1
        rw [IntKind.wrap_u8] at HW9
        refine ⟨⟨k + 1, by omega, by go_num, ?_⟩, by simp [intOf]; omega⟩
        rw [Wr.leBytes_succ, ← List.append_assoc]
        rw [List.length_append] at HW9
        exact HW9
    · go_wp2
      go_end0
      have hk8 : k = 4 := by omega
      subst hk8
      exact ⟨rfl, v2, hW2, hK2, hB2, hv2⟩
set_option maxHeartbeats 1000000 in
set_option maxRecDepth 100000 in
theorem wBytes (base g : Nat) (v : Value) (xs : List Int) (w : World) (hW : IsW w base g v xs) (hl : xs.length ≤ 1000000) :
    Calls Tryd.prog 30 #[.pointer (some ⟨g, 0, none⟩)] w fun e w' => e = .returned (.string (strOfNums xs)) ∧ Drawn0 w w' := by
  have hc := isw_cell hW
  have hcv := own_string (P := Tryd.prog) Tryd.underlying72 Tryd.underlying5 Tryd.underlying9 hW.2.1
  have HW := Lib.hid hW
  clear hW
  go_enter Tryd.func30, Tryd.ntmps30
  go_wp2
  go_ret
  exact ⟨rfl, Drawn0.refl _⟩
set_option maxHeartbeats 1000000 in
set_option maxRecDepth 100000 in
theorem wU64 (n : Int) (h0 : 0 ≤ n) (h1 : n < 18446744073709551616) (base g : Nat) (v : Value) (xs : List Int) (w : World) (hW : IsW w base g v xs) (hl : xs.length ≤ 1000000) :
    Calls Tryd.prog 27 #[.pointer (some ⟨g, 0, none⟩), .int .u64 n] w fun e w' => e = .returned (.tuple #[]) ∧ Wrote w w' base g v (xs ++ Wr.leBytes n 8) := by
  have HW := Lib.hid hW
  clear hW
  go_enter Tryd.func27, Tryd.ntmps27
  go_wp2_with fail
  refine (put64 n h0 h1 base g v xs _ HW.out hl).mono ?_
  rintro e w1 ⟨rfl, hw⟩
  have HQ := Lib.hid hw
  clear hw
  go_wp2
  go_end0
  exact ⟨rfl, HQ.out⟩
set_option maxHeartbeats 1000000 in
set_option maxRecDepth 100000 in
theorem wU8 (n : Int) (h0 : 0 ≤ n) (h1 : n < 256) (base g : Nat) (v : Value) (xs : List Int) (w : World) (hW : IsW w base g v xs) (hl : xs.length ≤ 1000000) :
    Calls Tryd.prog 28 #[.pointer (some ⟨g, 0, none⟩), .int .u8 n] w fun e w' => e = .returned (.tuple #[]) ∧ Wrote w w' base g v (xs ++ Wr.leBytes n 1) := by
  have HW := Lib.hid hW
  clear hW
  go_enter Tryd.func28, Tryd.ntmps28
  go_wp2_with fail
  refine (put8 n h0 h1 base g v xs _ HW.out hl).mono ?_
  rintro e w1 ⟨rfl, hw⟩
  have HQ := Lib.hid hw
  clear hw
  go_wp2
  go_end0
  exact ⟨rfl, HQ.out⟩
set_option maxHeartbeats 1000000 in
set_option maxRecDepth 100000 in
theorem wU16 (n : Int) (h0 : 0 ≤ n) (h1 : n < 65536) (base g : Nat) (v : Value) (xs : List Int) (w : World) (hW : IsW w base g v xs) (hl : xs.length ≤ 1000000) :
    Calls Tryd.prog 58 #[.pointer (some ⟨g, 0, none⟩), .int .u16 n] w fun e w' => e = .returned (.tuple #[]) ∧ Wrote w w' base g v (xs ++ Wr.leBytes n 2) := by
  have HW := Lib.hid hW
  clear hW
  go_enter Tryd.func58, Tryd.ntmps58
  go_wp2_with fail
  refine (put16 n h0 h1 base g v xs _ HW.out hl).mono ?_
  rintro e w1 ⟨rfl, hw⟩
  have HQ := Lib.hid hw
  clear hw
  go_wp2
  go_end0
  exact ⟨rfl, HQ.out⟩
set_option maxHeartbeats 1000000 in
set_option maxRecDepth 100000 in
theorem wU32 (n : Int) (h0 : 0 ≤ n) (h1 : n < 4294967296) (base g : Nat) (v : Value) (xs : List Int) (w : World) (hW : IsW w base g v xs) (hl : xs.length ≤ 1000000) :
    Calls Tryd.prog 59 #[.pointer (some ⟨g, 0, none⟩), .int .u32 n] w fun e w' => e = .returned (.tuple #[]) ∧ Wrote w w' base g v (xs ++ Wr.leBytes n 4) := by
  have HW := Lib.hid hW
  clear hW
  go_enter Tryd.func59, Tryd.ntmps59
  go_wp2_with fail
  refine (put32 n h0 h1 base g v xs _ HW.out hl).mono ?_
  rintro e w1 ⟨rfl, hw⟩
  have HQ := Lib.hid hw
  clear hw
  go_wp2
  go_end0
  exact ⟨rfl, HQ.out⟩
end Go.Proofs.YtnhjhaphfdlkfaaDoor.Wq
/- Contracts in plain words: frames, the reader. -/
set_option linter.unusedVariables false
namespace Go.Proofs.YtnhjhaphfdlkfaaDoor.Sg
open Go.RowKit Go.Proofs.YtnhjhaphfdlkfaaDoor.HF Go.Proofs.YtnhjhaphfdlkfaaDoor.SB Go.Proofs.YtnhjhaphfdlkfaaDoorW.PrintWords Go.Proofs.YtnhjhaphfdlkfaaDoorW.PrintLast Go.Proofs.YtnhjhaphfdlkfaaDoorW.PrintMore
abbrev Lay (w : World) : Prop := Go.Proofs.YtnhjhaphfdlkfaaDoor.Crc.Laid w
theorem c_next (l : List UInt8) (hl : l.length ≤ 100000) (w : World) (HL : Lay w) :
    Calls Tryd.prog 34 #[.string (bs l)] w fun e w' => e = .returned (.tuple #[.string (bs (nextN l).1), .int .i64 (nextN l).2.1, .int .i64 (nextN l).2.2]) ∧ Below w.heap.size w w' :=
  frame_Next.calls 100011 _ _ _ _ w (next_f l hl 100011 (by omega)) (Aside0.mk HL)
theorem c_rnext (l : List UInt8) (hl : l.length ≤ 100000) (w : World) :
    Calls Tryd.prog 40 #[.string (bs l)] w fun e w' => e = .returned (.tuple #[.string (bs (nextN l).1), .int .i64 (nextN l).2.1, .int .i64 (nextN l).2.2]) ∧ Below w.heap.size w w' :=
  hindcastref04_Next.calls 60001 _ _ _ _ w (ref_next l hl 60001 (by omega))
def frameL (a : List UInt8) : List UInt8 := enc (headN (bs a)) ++ a
theorem c_fput (a : List UInt8) (ha : a.length ≤ 4096) (w : World) (HL : Lay w) :
    Calls Tryd.prog 29 #[.string (bs a)] w fun e w' => e = .returned (.tuple #[.string (bs (frameL a)), .int .i64 0]) ∧ Below w.heap.size w w' := by
  have h := frame_put_f (bs a) (by rw [bs_size]; exact ha) 5001 (by omega)
  rw [frame_list] at h
  exact frame_Put.calls 5001 _ _ _ w h (Aside0.mk HL)
/-- A reader at block g; r: what is left of its text (none: it was torn). -/
def IsRd (w0 w : World) (g : Nat) (r : Option (List UInt8)) : Prop := IsS130 w0 w g (st r).1 (st r).2
theorem rd_kept {w0 w w1 : World} {g : Nat} {r : Option (List UInt8)} {S : Nat → Prop} (h : IsRd w0 w g r) (hk : Kept w w1 S) (hne : ¬ S g) : IsRd w0 w1 g r := IsS130.kept h hk hne
theorem rd_lt {w0 w : World} {g : Nat} {r : Option (List UInt8)} (h : IsRd w0 w g r) : g < w.heap.size := IsS130.lt h
theorem rd_ge {w0 w : World} {g : Nat} {r : Option (List UInt8)} (h : IsRd w0 w g r) : w0.heap.size ≤ g := IsS130.ge h
theorem kept_but {w w' : World} {g : Nat} (k : KeepBut w w' g none) : Kept w w' (fun i => i = g) := Kept.of_keep (Kept.refl w _) k (Or.inl rfl)
theorem c_new (l : List UInt8) (w : World) :
    Calls Tryd.prog 35 #[.string (bs l)] w fun e w' => ∃ g : Nat, e = .returned (.pointer (some ⟨g, 0, none⟩)) ∧ IsRd w w' g (some l) ∧ Below w.heap.size w w' :=
  (codec_New.calls (bs l) (bs l) 0 w w (Below.refl _ _) rfl).mono fun e w' ⟨g, h1, h2, h3, _⟩ => ⟨g, h1, h2, h3⟩
theorem c_u8 (w0 w : World) (gr : Nat) (r : Option (List UInt8)) (hI : IsRd w0 w gr r) (hs : small r) (hB : Below w0.heap.size w0 w) :
    Calls Tryd.prog 37 #[.pointer (some ⟨gr, 0, none⟩)] w fun e w' => e = .returned (.int .u8 (g 1 r).1) ∧ IsRd w0 w' gr (g 1 r).2 ∧ Below w0.heap.size w0 w' ∧ Kept w w' (fun i => i = gr) :=
  (codec_Reader_U8.calls 21 gr _ _ _ _ _ w0 w hI hB (read8 r hs 21 (by omega))).mono fun e w' ⟨h1, h2, h3, h4⟩ => ⟨h1, h2, h3, kept_but h4⟩
theorem c_u64 (w0 w : World) (gr : Nat) (r : Option (List UInt8)) (hI : IsRd w0 w gr r) (hs : small r) (hB : Below w0.heap.size w0 w) :
    Calls Tryd.prog 36 #[.pointer (some ⟨gr, 0, none⟩)] w fun e w' => e = .returned (.int .u64 (g 8 r).1) ∧ IsRd w0 w' gr (g 8 r).2 ∧ Below w0.heap.size w0 w' ∧ Kept w w' (fun i => i = gr) :=
  (codec_Reader_U64.calls 21 gr _ _ _ _ _ w0 w hI hB (read64 r hs 21 (by omega))).mono fun e w' ⟨h1, h2, h3, h4⟩ => ⟨h1, h2, h3, kept_but h4⟩
theorem c_err (w0 w : World) (gr : Nat) (r : Option (List UInt8)) (hI : IsRd w0 w gr r) (hB : Below w0.heap.size w0 w) :
    Calls Tryd.prog 38 #[.pointer (some ⟨gr, 0, none⟩)] w fun e w' => e = .returned (.int .i64 (st r).2) ∧ IsRd w0 w' gr r ∧ Below w0.heap.size w0 w' ∧ Kept w w' (fun i => i = gr) :=
  (codec_Reader_Err.calls gr _ _ _ _ _ w0 w hI hB rfl).mono fun e w' ⟨h1, h2, h3, h4⟩ => ⟨h1, h2, h3, kept_but h4⟩
theorem c_rest (w0 w : World) (gr : Nat) (r : Option (List UInt8)) (hI : IsRd w0 w gr r) (hB : Below w0.heap.size w0 w) :
    Calls Tryd.prog 39 #[.pointer (some ⟨gr, 0, none⟩)] w fun e w' => e = .returned (.string (st r).1) ∧ IsRd w0 w' gr r ∧ Below w0.heap.size w0 w' ∧ Kept w w' (fun i => i = gr) :=
  (codec_Reader_Rest.calls gr _ _ _ _ _ w0 w hI hB rfl).mono fun e w' ⟨h1, h2, h3, h4⟩ => ⟨h1, h2, h3, kept_but h4⟩
theorem c_legal (a : Int) (w : World) : Calls Tryd.prog 87 #[.int .u8 a] w fun e w' => e = .returned (.bool (decide (a < 64))) ∧ Drawn0 w w' := input_Legal.calls a _ w rfl
end Go.Proofs.YtnhjhaphfdlkfaaDoor.Sg
/- Records: what they are; the reader's and the writer's side of a field. -/
set_option linter.unusedVariables false
namespace Go.Proofs.YtnhjhaphfdlkfaaDoor.Sg
open Go.RowKit Go.Proofs.YtnhjhaphfdlkfaaDoor.HF Go.Proofs.YtnhjhaphfdlkfaaDoor.SB Go.Proofs.YtnhjhaphfdlkfaaDoorW.PrintWords Go.Proofs.YtnhjhaphfdlkfaaDoorW.PrintLast Go.Proofs.YtnhjhaphfdlkfaaDoorW.PrintMore
structure Rec where
  kind : Int
  frame : Int
  own : Int
  p0 : Int
  p1 : Int
  seg : Int
  first : Int
  epoch : Int
  player : Int
deriving DecidableEq
def Rec.zero : Rec := ⟨0, 0, 0, 0, 0, 0, 0, 0, 0⟩
def Rec.cells (r : Rec) : Array Value := #[.int .i64 r.kind, .int .u64 r.frame, .int .u8 r.own, .int .u8 r.p0, .int .u8 r.p1, .int .u64 r.seg, .int .u64 r.first, .int .u64 r.epoch, .int .u8 r.player]
def Rec.val (r : Rec) : Value := .agg r.cells
set_option maxHeartbeats 1000000 in
theorem in_byte (w0 w : World) (gr : Nat) (r : Option (List UInt8)) (hI : IsRd w0 w gr r) (hs : small r) (hB : Below w0.heap.size w0 w) (b off : Nat) (cs : Array Value) (t : TypeId) (hb : w.heap[b]? = some (.cells cs t (0, 0))) (hoff : off < cs.size) (hbg : b ≠ gr) (hb0 : w0.heap.size ≤ b) :
    Calls Tryd.prog 69 #[.agg #[.pointer (some ⟨gr, 0, none⟩)], .pointer (some ⟨b, off, none⟩)] w fun e w' =>
      e = .returned (.tuple #[]) ∧ IsRd w0 w' gr (g 1 r).2 ∧ w'.heap[b]? = some (.cells (cs.setIfInBounds off (.int .u8 (g 1 r).1)) t (0, 0)) ∧ Below w0.heap.size w0 w' ∧ Kept w w' (fun i => i = gr ∨ i = b) := by
  have hblt := blk_lt hb
  have HU := Lib.hid (fun ob => c_u8 w0 (w.alloc ob) gr r (rd_kept hI ((Kept.refl w (fun _ => False)).alloc ob) (fun h => h)) hs (hB.alloc hB.size ob))
  have HBk := Lib.hid hb
  have HBB := Lib.hid hB
  have HI := Lib.hid hI
  clear hI hB hb
  go_enter Tryd.func69, Tryd.ntmps69
  go_wp2_with fail
  refine (HU.out _).mono ?_
  rintro e w1 ⟨rfl, hI1, hB1, hK1⟩
  have hk1 : Kept w w1 (fun i => i = gr) := ((Kept.refl w _).alloc _).then_ hK1 (fun _ h => Or.inl h)
  have hb1 := blk_kept HBk.out hk1 hbg
  have c1 : w1.cell? ⟨b, off, none⟩ = some (cs[off]'hoff) := (cell_of_row _ _ _ _ _ _ hb1).trans (Array.getElem?_eq_getElem hoff)
  have f1 : w1.frozen? ⟨b, off, none⟩ = false := blk_frozen hb1 off
  have HI1 := Lib.hid hI1
  have HB1 := Lib.hid hB1
  have HK1 := Lib.hid hk1
  have HBK1 := Lib.hid hb1
  clear hI1 hB1 hK1 hk1 hb1
  go_wp2
  go_end0
  refine ⟨rfl, rd_kept HI1.out (Kept.setCell (S := fun i => i = b) (Kept.refl w1 _) (Or.inl rfl) _) (fun h => hbg h.symm), blk_set HBK1.out off _, HB1.out.setCell hb0 _, Kept.setCell (S := fun i => i = gr ∨ i = b) (HK1.out.mono (fun _ h => Or.inl h)) (Or.inl (Or.inr rfl)) _⟩
set_option maxHeartbeats 1000000 in
theorem in_long (w0 w : World) (gr : Nat) (r : Option (List UInt8)) (hI : IsRd w0 w gr r) (hs : small r) (hB : Below w0.heap.size w0 w) (b off : Nat) (cs : Array Value) (t : TypeId) (hb : w.heap[b]? = some (.cells cs t (0, 0))) (hoff : off < cs.size) (hbg : b ≠ gr) (hb0 : w0.heap.size ≤ b) :
    Calls Tryd.prog 106 #[.agg #[.pointer (some ⟨gr, 0, none⟩)], .pointer (some ⟨b, off, none⟩)] w fun e w' =>
      e = .returned (.tuple #[]) ∧ IsRd w0 w' gr (g 8 r).2 ∧ w'.heap[b]? = some (.cells (cs.setIfInBounds off (.int .u64 (g 8 r).1)) t (0, 0)) ∧ Below w0.heap.size w0 w' ∧ Kept w w' (fun i => i = gr ∨ i = b) := by
  have hblt := blk_lt hb
  have HU := Lib.hid (fun ob => c_u64 w0 (w.alloc ob) gr r (rd_kept hI ((Kept.refl w (fun _ => False)).alloc ob) (fun h => h)) hs (hB.alloc hB.size ob))
  have HBk := Lib.hid hb
  have HBB := Lib.hid hB
  have HI := Lib.hid hI
  clear hI hB hb
  go_enter Tryd.func106, Tryd.ntmps106
  go_wp2_with fail
  refine (HU.out _).mono ?_
  rintro e w1 ⟨rfl, hI1, hB1, hK1⟩
  have hk1 : Kept w w1 (fun i => i = gr) := ((Kept.refl w _).alloc _).then_ hK1 (fun _ h => Or.inl h)
  have hb1 := blk_kept HBk.out hk1 hbg
  have c1 : w1.cell? ⟨b, off, none⟩ = some (cs[off]'hoff) := (cell_of_row _ _ _ _ _ _ hb1).trans (Array.getElem?_eq_getElem hoff)
  have f1 : w1.frozen? ⟨b, off, none⟩ = false := blk_frozen hb1 off
  have HI1 := Lib.hid hI1
  have HB1 := Lib.hid hB1
  have HK1 := Lib.hid hk1
  have HBK1 := Lib.hid hb1
  clear hI1 hB1 hK1 hk1 hb1
  go_wp2
  go_end0
  refine ⟨rfl, rd_kept HI1.out (Kept.setCell (S := fun i => i = b) (Kept.refl w1 _) (Or.inl rfl) _) (fun h => hbg h.symm), blk_set HBK1.out off _, HB1.out.setCell hb0 _, Kept.setCell (S := fun i => i = gr ∨ i = b) (HK1.out.mono (fun _ h => Or.inl h)) (Or.inl (Or.inr rfl)) _⟩
theorem wrote_drew {w w' : World} {base go : Nat} {v : Value} {xs : List Int} (h : Wq.Wrote w.drew w' base go v xs) : Wq.Wrote w w' base go v xs := by
  obtain ⟨v', h1, h2, h3, h4⟩ := h
  exact ⟨v', h1, h2, ⟨h3.os, h3.tape, h3.output, h3.size, h3.block⟩, h4⟩
set_option maxHeartbeats 1000000 in
theorem out_byte (w : World) (base go : Nat) (v : Value) (xs : List Int) (hW : Wq.IsW w base go v xs) (hl : xs.length ≤ 1000) (b off : Nat) (n : Int) (hc : w.cell? ⟨b, off, none⟩ = some (.int .u8 n)) (h0 : 0 ≤ n) (h1 : n < 256) :
    Calls Tryd.prog 79 #[.pointer (some ⟨go, 0, none⟩), .pointer (some ⟨b, off, none⟩)] w fun e w' => e = .returned (.tuple #[]) ∧ Wq.Wrote w w' base go v (xs ++ Wr.leBytes n 1) := by
  have HU := Lib.hid (Wq.wU8 n h0 h1 base go v xs w.drew (by exact hW) (by omega))
  clear hW
  go_enter Tryd.func79, Tryd.ntmps79
  go_region_with (first | (go_at_call 28; refine (HU.out).mono ?_; rintro e w1 ⟨rfl, hw1⟩; have HW1 := Lib.hid hw1; clear hw1))
  all_goals (go_end0; exact ⟨rfl, wrote_drew HW1.out⟩)
set_option maxHeartbeats 1000000 in
theorem out_long (w : World) (base go : Nat) (v : Value) (xs : List Int) (hW : Wq.IsW w base go v xs) (hl : xs.length ≤ 1000) (b off : Nat) (n : Int) (hc : w.cell? ⟨b, off, none⟩ = some (.int .u64 n)) (h0 : 0 ≤ n) (h1 : n < 18446744073709551616) :
    Calls Tryd.prog 107 #[.pointer (some ⟨go, 0, none⟩), .pointer (some ⟨b, off, none⟩)] w fun e w' => e = .returned (.tuple #[]) ∧ Wq.Wrote w w' base go v (xs ++ Wr.leBytes n 8) := by
  have HU := Lib.hid (Wq.wU64 n h0 h1 base go v xs w.drew (by exact hW) (by omega))
  clear hW h1
  go_enter Tryd.func107, Tryd.ntmps107
  go_region_with (first | (go_at_call 27; refine (HU.out).mono ?_; rintro e w1 ⟨rfl, hw1⟩; have HW1 := Lib.hid hw1; clear hw1))
  all_goals (go_end0; exact ⟨rfl, wrote_drew HW1.out⟩)
theorem na_in_long (a : Option Addr) (w : World) : (nilAhead 278 135 (.agg #[.pointer a]) "hindcast/record.long").run Tryd.prog w = .ok (some false) w := by kernel_rfl
theorem na_in_byte (a : Option Addr) (w : World) : (nilAhead 278 135 (.agg #[.pointer a]) "hindcast/record.byte").run Tryd.prog w = .ok (some false) w := by kernel_rfl
theorem m_in_long (a : Option Addr) (w : World) : (method 278 135 (.agg #[.pointer a]) "hindcast/record.long").run Tryd.prog w = .ok (106, .agg #[.pointer a]) w := by kernel_rfl
theorem m_in_byte (a : Option Addr) (w : World) : (method 278 135 (.agg #[.pointer a]) "hindcast/record.byte").run Tryd.prog w = .ok (69, .agg #[.pointer a]) w := by kernel_rfl
theorem na_out_long (a : Addr) (w : World) : (nilAhead 278 142 (.pointer (some a)) "hindcast/record.long").run Tryd.prog w = .ok (some false) w := by kernel_rfl
theorem na_out_byte (a : Addr) (w : World) : (nilAhead 278 142 (.pointer (some a)) "hindcast/record.byte").run Tryd.prog w = .ok (some false) w := by kernel_rfl
theorem m_out_long (a : Addr) (w : World) : (method 278 142 (.pointer (some a)) "hindcast/record.long").run Tryd.prog w = .ok (107, .pointer (some a)) w := by kernel_rfl
theorem m_out_byte (a : Addr) (w : World) : (method 278 142 (.pointer (some a)) "hindcast/record.byte").run Tryd.prog w = .ok (79, .pointer (some a)) w := by kernel_rfl
end Go.Proofs.YtnhjhaphfdlkfaaDoor.Sg
/- (*record.Record).fields, over a reader and over a writer. -/
set_option linter.unusedVariables false
namespace Go.Proofs.YtnhjhaphfdlkfaaDoor.Sg
open Go.RowKit Go.Proofs.YtnhjhaphfdlkfaaDoor.HF Go.Proofs.YtnhjhaphfdlkfaaDoor.SB Go.Proofs.YtnhjhaphfdlkfaaDoorW.PrintWords Go.Proofs.YtnhjhaphfdlkfaaDoorW.PrintLast Go.Proofs.YtnhjhaphfdlkfaaDoorW.PrintMore
set_option maxHeartbeats 4000000 in
set_option maxRecDepth 100000 in
theorem in_fields1 (w0 w : World) (gr : Nat) (r : Option (List UInt8)) (hI : IsRd w0 w gr r) (hs : small r) (hB : Below w0.heap.size w0 w) (b : Nat) (R : Rec) (hk : R.kind = 1) (hb : w.heap[b]? = some (.cells R.cells 51 (0, 0))) (hbg : b ≠ gr) (hb0 : w0.heap.size ≤ b) :
    Calls Tryd.prog 70 #[.pointer (some ⟨b, 0, none⟩), .iface 135 (.agg #[.pointer (some ⟨gr, 0, none⟩)])] w fun e w' =>
      e = .returned (.bool true) ∧ IsRd w0 w' gr (g 1 (g 8 r).2).2 ∧ w'.heap[b]? = some (.cells ({ R with frame := (g 8 r).1, own := (g 1 (g 8 r).2).1 } : Rec).cells 51 (0, 0)) ∧ Below w0.heap.size w0 w' ∧ Kept w w' (fun i => i = gr ∨ i = b) := by
  have c0 : w.cell? ⟨b, 0, none⟩ = some (.int .i64 1) := by rw [← hk]; exact blk_cell hb 0
  have hs1 : small (g 8 r).2 := g_small _ _ hs
  have hs2 : small (g 1 (g 8 r).2).2 := g_small _ _ hs1
  have HI0 := Lib.hid hI
  have HB0 := Lib.hid hB
  have HC0 := Lib.hid hb
  have HK0 := Lib.hid (Kept.refl w (fun i => i = gr ∨ i = b))
  have f1 := na_in_long (some ⟨gr, 0, none⟩)
  have f2 := na_in_byte (some ⟨gr, 0, none⟩)
  have f3 := m_in_long (some ⟨gr, 0, none⟩)
  have f4 := m_in_byte (some ⟨gr, 0, none⟩)
  have HKD := Lib.hid hk
  clear hI hB hb hk
  go_enter Tryd.func70, Tryd.ntmps70
  have HU1 := Lib.hid (in_long w0 w.drew gr r HI0.out hs HB0.out.drew b 1 R.cells 51 HC0.out (by simp [Rec.cells]) hbg hb0)
  go_wp2_with fail
  go_region_with (first | (go_at_call 106; refine (HU1.out).mono ?_; rintro e w1 ⟨rfl, hI1, hb1, hB1, hK1⟩))
  have HI1 := Lib.hid hI1
  have HB1 := Lib.hid hB1
  have HC1 := Lib.hid (show w1.heap[b]? = some (.cells ({ R with frame := (g 8 r).1 } : Rec).cells 51 (0, 0)) from hb1)
  have HK1 := Lib.hid (HK0.out.then_ (W := w.drew) hK1 (fun _ h => Or.inl h))
  clear hI1 hb1 hB1 hK1
  have HU2 := Lib.hid (in_byte w0 w1.drew gr (g 8 r).2 HI1.out hs1 HB1.out.drew b 2 ({ R with frame := (g 8 r).1 } : Rec).cells 51 HC1.out (by simp [Rec.cells]) hbg hb0)
  go_wp2_with fail
  go_region_with (first | (go_at_call 69; refine (HU2.out).mono ?_; rintro e w2 ⟨rfl, hI2, hb2, hB2, hK2⟩))
  have HI2 := Lib.hid hI2
  have HB2 := Lib.hid hB2
  have HC2 := Lib.hid (show w2.heap[b]? = some (.cells ({ R with frame := (g 8 r).1, own := (g 1 (g 8 r).2).1 } : Rec).cells 51 (0, 0)) from hb2)
  have HK2 := Lib.hid (HK1.out.then_ (W := w1.drew) hK2 (fun _ h => Or.inl h))
  clear hI2 hb2 hB2 hK2
  go_wp2
  go_ret
  exact ⟨rfl, HI2.out, HC2.out, HB2.out, HK2.out⟩
set_option maxHeartbeats 4000000 in
set_option maxRecDepth 100000 in
theorem in_fields2 (w0 w : World) (gr : Nat) (r : Option (List UInt8)) (hI : IsRd w0 w gr r) (hs : small r) (hB : Below w0.heap.size w0 w) (b : Nat) (R : Rec) (hk : R.kind = 2) (hb : w.heap[b]? = some (.cells R.cells 51 (0, 0))) (hbg : b ≠ gr) (hb0 : w0.heap.size ≤ b) :
    Calls Tryd.prog 70 #[.pointer (some ⟨b, 0, none⟩), .iface 135 (.agg #[.pointer (some ⟨gr, 0, none⟩)])] w fun e w' =>
      e = .returned (.bool true) ∧ IsRd w0 w' gr (g 1 (g 1 (g 8 r).2).2).2 ∧ w'.heap[b]? = some (.cells ({ R with frame := (g 8 r).1, p0 := (g 1 (g 8 r).2).1, p1 := (g 1 (g 1 (g 8 r).2).2).1 } : Rec).cells 51 (0, 0)) ∧ Below w0.heap.size w0 w' ∧ Kept w w' (fun i => i = gr ∨ i = b) := by
  have c0 : w.cell? ⟨b, 0, none⟩ = some (.int .i64 2) := by rw [← hk]; exact blk_cell hb 0
  have hs1 : small (g 8 r).2 := g_small _ _ hs
  have hs2 : small (g 1 (g 8 r).2).2 := g_small _ _ hs1
  have hs3 : small (g 1 (g 1 (g 8 r).2).2).2 := g_small _ _ hs2
  have HI0 := Lib.hid hI
  have HB0 := Lib.hid hB
  have HC0 := Lib.hid hb
  have HK0 := Lib.hid (Kept.refl w (fun i => i = gr ∨ i = b))
  have f1 := na_in_long (some ⟨gr, 0, none⟩)
  have f2 := na_in_byte (some ⟨gr, 0, none⟩)
  have f3 := m_in_long (some ⟨gr, 0, none⟩)
  have f4 := m_in_byte (some ⟨gr, 0, none⟩)
  have HKD := Lib.hid hk
  clear hI hB hb hk
  go_enter Tryd.func70, Tryd.ntmps70
  have HU1 := Lib.hid (in_long w0 w.drew gr r HI0.out hs HB0.out.drew b 1 R.cells 51 HC0.out (by simp [Rec.cells]) hbg hb0)
  go_wp2_with fail
  go_region_with (first | (go_at_call 106; refine (HU1.out).mono ?_; rintro e w1 ⟨rfl, hI1, hb1, hB1, hK1⟩))
  have HI1 := Lib.hid hI1
  have HB1 := Lib.hid hB1
  have HC1 := Lib.hid (show w1.heap[b]? = some (.cells ({ R with frame := (g 8 r).1 } : Rec).cells 51 (0, 0)) from hb1)
  have HK1 := Lib.hid (HK0.out.then_ (W := w.drew) hK1 (fun _ h => Or.inl h))
  clear hI1 hb1 hB1 hK1
  have HU2 := Lib.hid (in_byte w0 w1.drew gr (g 8 r).2 HI1.out hs1 HB1.out.drew b 3 ({ R with frame := (g 8 r).1 } : Rec).cells 51 HC1.out (by simp [Rec.cells]) hbg hb0)
  go_wp2_with fail
  go_region_with (first | (go_at_call 69; refine (HU2.out).mono ?_; rintro e w2 ⟨rfl, hI2, hb2, hB2, hK2⟩))
  have HI2 := Lib.hid hI2
  have HB2 := Lib.hid hB2
  have HC2 := Lib.hid (show w2.heap[b]? = some (.cells ({ R with frame := (g 8 r).1, p0 := (g 1 (g 8 r).2).1 } : Rec).cells 51 (0, 0)) from hb2)
  have HK2 := Lib.hid (HK1.out.then_ (W := w1.drew) hK2 (fun _ h => Or.inl h))
  clear hI2 hb2 hB2 hK2
  have HU3 := Lib.hid (in_byte w0 w2.drew gr (g 1 (g 8 r).2).2 HI2.out hs2 HB2.out.drew b 4 ({ R with frame := (g 8 r).1, p0 := (g 1 (g 8 r).2).1 } : Rec).cells 51 HC2.out (by simp [Rec.cells]) hbg hb0)
  go_wp2_with fail
  go_region_with (first | (go_at_call 69; refine (HU3.out).mono ?_; rintro e w3 ⟨rfl, hI3, hb3, hB3, hK3⟩))
  have HI3 := Lib.hid hI3
  have HB3 := Lib.hid hB3
  have HC3 := Lib.hid (show w3.heap[b]? = some (.cells ({ R with frame := (g 8 r).1, p0 := (g 1 (g 8 r).2).1, p1 := (g 1 (g 1 (g 8 r).2).2).1 } : Rec).cells 51 (0, 0)) from hb3)
  have HK3 := Lib.hid (HK2.out.then_ (W := w2.drew) hK3 (fun _ h => Or.inl h))
  clear hI3 hb3 hB3 hK3
  go_wp2
  go_ret
  exact ⟨rfl, HI3.out, HC3.out, HB3.out, HK3.out⟩
set_option maxHeartbeats 4000000 in
set_option maxRecDepth 100000 in
theorem in_fields3 (w0 w : World) (gr : Nat) (r : Option (List UInt8)) (hI : IsRd w0 w gr r) (hs : small r) (hB : Below w0.heap.size w0 w) (b : Nat) (R : Rec) (hk : R.kind = 3) (hb : w.heap[b]? = some (.cells R.cells 51 (0, 0))) (hbg : b ≠ gr) (hb0 : w0.heap.size ≤ b) :
    Calls Tryd.prog 70 #[.pointer (some ⟨b, 0, none⟩), .iface 135 (.agg #[.pointer (some ⟨gr, 0, none⟩)])] w fun e w' =>
      e = .returned (.bool true) ∧ IsRd w0 w' gr (g 1 (g 8 (g 8 (g 8 r).2).2).2).2 ∧ w'.heap[b]? = some (.cells ({ R with seg := (g 8 r).1, first := (g 8 (g 8 r).2).1, epoch := (g 8 (g 8 (g 8 r).2).2).1, player := (g 1 (g 8 (g 8 (g 8 r).2).2).2).1 } : Rec).cells 51 (0, 0)) ∧ Below w0.heap.size w0 w' ∧ Kept w w' (fun i => i = gr ∨ i = b) := by
  have c0 : w.cell? ⟨b, 0, none⟩ = some (.int .i64 3) := by rw [← hk]; exact blk_cell hb 0
  have hs1 : small (g 8 r).2 := g_small _ _ hs
  have hs2 : small (g 8 (g 8 r).2).2 := g_small _ _ hs1
  have hs3 : small (g 8 (g 8 (g 8 r).2).2).2 := g_small _ _ hs2
  have hs4 : small (g 1 (g 8 (g 8 (g 8 r).2).2).2).2 := g_small _ _ hs3
  have HI0 := Lib.hid hI
  have HB0 := Lib.hid hB
  have HC0 := Lib.hid hb
  have HK0 := Lib.hid (Kept.refl w (fun i => i = gr ∨ i = b))
  have f1 := na_in_long (some ⟨gr, 0, none⟩)
  have f2 := na_in_byte (some ⟨gr, 0, none⟩)
  have f3 := m_in_long (some ⟨gr, 0, none⟩)
  have f4 := m_in_byte (some ⟨gr, 0, none⟩)
  have HKD := Lib.hid hk
  clear hI hB hb hk
  go_enter Tryd.func70, Tryd.ntmps70
  have HU1 := Lib.hid (in_long w0 w.drew gr r HI0.out hs HB0.out.drew b 5 R.cells 51 HC0.out (by simp [Rec.cells]) hbg hb0)
  go_wp2_with fail
  go_region_with (first | (go_at_call 106; refine (HU1.out).mono ?_; rintro e w1 ⟨rfl, hI1, hb1, hB1, hK1⟩))
  have HI1 := Lib.hid hI1
  have HB1 := Lib.hid hB1
  have HC1 := Lib.hid (show w1.heap[b]? = some (.cells ({ R with seg := (g 8 r).1 } : Rec).cells 51 (0, 0)) from hb1)
  have HK1 := Lib.hid (HK0.out.then_ (W := w.drew) hK1 (fun _ h => Or.inl h))
  clear hI1 hb1 hB1 hK1
  have HU2 := Lib.hid (in_long w0 w1.drew gr (g 8 r).2 HI1.out hs1 HB1.out.drew b 6 ({ R with seg := (g 8 r).1 } : Rec).cells 51 HC1.out (by simp [Rec.cells]) hbg hb0)
  go_wp2_with fail
  go_region_with (first | (go_at_call 106; refine (HU2.out).mono ?_; rintro e w2 ⟨rfl, hI2, hb2, hB2, hK2⟩))
  have HI2 := Lib.hid hI2
  have HB2 := Lib.hid hB2
  have HC2 := Lib.hid (show w2.heap[b]? = some (.cells ({ R with seg := (g 8 r).1, first := (g 8 (g 8 r).2).1 } : Rec).cells 51 (0, 0)) from hb2)
  have HK2 := Lib.hid (HK1.out.then_ (W := w1.drew) hK2 (fun _ h => Or.inl h))
  clear hI2 hb2 hB2 hK2
  have HU3 := Lib.hid (in_long w0 w2.drew gr (g 8 (g 8 r).2).2 HI2.out hs2 HB2.out.drew b 7 ({ R with seg := (g 8 r).1, first := (g 8 (g 8 r).2).1 } : Rec).cells 51 HC2.out (by simp [Rec.cells]) hbg hb0)
  go_wp2_with fail
  go_region_with (first | (go_at_call 106; refine (HU3.out).mono ?_; rintro e w3 ⟨rfl, hI3, hb3, hB3, hK3⟩))
  have HI3 := Lib.hid hI3
  have HB3 := Lib.hid hB3
  have HC3 := Lib.hid (show w3.heap[b]? = some (.cells ({ R with seg := (g 8 r).1, first := (g 8 (g 8 r).2).1, epoch := (g 8 (g 8 (g 8 r).2).2).1 } : Rec).cells 51 (0, 0)) from hb3)
  have HK3 := Lib.hid (HK2.out.then_ (W := w2.drew) hK3 (fun _ h => Or.inl h))
  clear hI3 hb3 hB3 hK3
  have HU4 := Lib.hid (in_byte w0 w3.drew gr (g 8 (g 8 (g 8 r).2).2).2 HI3.out hs3 HB3.out.drew b 8 ({ R with seg := (g 8 r).1, first := (g 8 (g 8 r).2).1, epoch := (g 8 (g 8 (g 8 r).2).2).1 } : Rec).cells 51 HC3.out (by simp [Rec.cells]) hbg hb0)
  go_wp2_with fail
  go_region_with (first | (go_at_call 69; refine (HU4.out).mono ?_; rintro e w4 ⟨rfl, hI4, hb4, hB4, hK4⟩))
  have HI4 := Lib.hid hI4
  have HB4 := Lib.hid hB4
  have HC4 := Lib.hid (show w4.heap[b]? = some (.cells ({ R with seg := (g 8 r).1, first := (g 8 (g 8 r).2).1, epoch := (g 8 (g 8 (g 8 r).2).2).1, player := (g 1 (g 8 (g 8 (g 8 r).2).2).2).1 } : Rec).cells 51 (0, 0)) from hb4)
  have HK4 := Lib.hid (HK3.out.then_ (W := w3.drew) hK4 (fun _ h => Or.inl h))
  clear hI4 hb4 hB4 hK4
  go_wp2
  go_ret
  exact ⟨rfl, HI4.out, HC4.out, HB4.out, HK4.out⟩
set_option maxHeartbeats 4000000 in
set_option maxRecDepth 100000 in
theorem fields_none (w : World) (b : Nat) (R : Rec) (hk : R.kind ≠ 1 ∧ R.kind ≠ 2 ∧ R.kind ≠ 3) (hb : w.heap[b]? = some (.cells R.cells 51 (0, 0))) (p : Value) :
    Calls Tryd.prog 70 #[.pointer (some ⟨b, 0, none⟩), p] w fun e w' => e = .returned (.bool false) ∧ w = w' := by
  have c0 : w.cell? ⟨b, 0, none⟩ = some (.int .i64 R.kind) := blk_cell hb 0
  have n1 : (R.kind == 1) = false := by simp [hk.1]
  have n2 : (R.kind == 2) = false := by simp [hk.2.1]
  have n3 : (R.kind == 3) = false := by simp [hk.2.2]
  clear hb hk
  go_enter Tryd.func70, Tryd.ntmps70
  go_wp2
  go_ret
  exact ⟨rfl, rfl⟩
theorem wrote_app {w w1 w2 : World} {base go : Nat} {v v1 : Value} {ys : List Int} (h : Kept w w1 (Wq.Foot go v) ∧ Below base w w1 ∧ (v1.ownBlock = v.ownBlock ∨ ∃ b, v1.ownBlock = some b ∧ w.heap.size ≤ b)) (k : Wq.Wrote w1 w2 base go v1 ys) : Wq.Wrote w w2 base go v ys := by
  obtain ⟨h2, h3, h4⟩ := h
  obtain ⟨v2, k1, k2, k3, k4⟩ := k
  refine ⟨v2, k1, h2.then_ k2 (fun i hi => ?_), h3.trans k3, ?_⟩
  · rcases hi with rfl | hi
    · exact Or.inl (Or.inl rfl)
    · rcases h4 with h | ⟨b, h, hb⟩
      · exact Or.inl (Or.inr (h ▸ hi))
      · rw [h] at hi; cases hi; exact Or.inr hb
  · rcases k4 with e | ⟨b, e, hb⟩
    · rcases h4 with h | ⟨b, h, hb⟩
      · exact Or.inl (e.trans h)
      · exact Or.inr ⟨b, e.trans h, hb⟩
    · exact Or.inr ⟨b, e, Nat.le_trans h2.1 hb⟩
/-- A block that the writer does not write. -/
theorem wrote_blk {w w1 : World} {base go b : Nat} {v : Value} {xs : List Int} {o : Obj} (h : Wq.Wrote w w1 base go v xs) (hb : w.heap[b]? = some o) (h1 : b ≠ go) (h2 : v.ownBlock ≠ some b) : w1.heap[b]? = some o := by
  obtain ⟨v1, k1, k2, k3, k4⟩ := h
  refine blk_kept hb k2 (fun hf => ?_)
  rcases hf with hf | hf
  · exact h1 hf
  · exact h2 hf
set_option maxHeartbeats 4000000 in
set_option maxRecDepth 100000 in
theorem out_fields1 (w : World) (base go : Nat) (v : Value) (xs : List Int) (hW : Wq.IsW w base go v xs) (hl : xs.length ≤ 100) (b : Nat) (R : Rec) (hk : R.kind = 1) (hb : w.heap[b]? = some (.cells R.cells 51 (0, 0))) (hbg : b ≠ go) (hbv : v.ownBlock ≠ some b) (hr : 0 ≤ R.frame ∧ R.frame < 18446744073709551616 ∧ 0 ≤ R.own ∧ R.own < 256) :
    Calls Tryd.prog 70 #[.pointer (some ⟨b, 0, none⟩), .iface 142 (.pointer (some ⟨go, 0, none⟩))] w fun e w' => e = .returned (.bool true) ∧ Wq.Wrote w w' base go v (xs ++ Wr.leBytes R.frame 8 ++ Wr.leBytes R.own 1) := by
  have c0 : w.cell? ⟨b, 0, none⟩ = some (.int .i64 1) := by rw [← hk]; exact blk_cell hb 0
  have HW0 := Lib.hid hW
  have HC0 := Lib.hid hb
  have HV0 := Lib.hid hbv
  have HR := Lib.hid hr
  have f1 := na_out_long ⟨go, 0, none⟩
  have f2 := na_out_byte ⟨go, 0, none⟩
  have f3 := m_out_long ⟨go, 0, none⟩
  have f4 := m_out_byte ⟨go, 0, none⟩
  have HKD := Lib.hid hk
  have hlt := blk_lt hb
  clear hW hb hbv hr hk
  go_enter Tryd.func70, Tryd.ntmps70
  have HU1 := Lib.hid (out_long w.drew base go v xs (by exact HW0.out) (by (repeat rw [List.length_append]); (repeat rw [Wr.leBytes_len]); omega) b 1 R.frame (blk_cell (w := w.drew) HC0.out 1) HR.out.1 HR.out.2.1)
  go_wp2_with fail
  go_region_with (first | (go_at_call 107; refine (HU1.out).mono ?_; rintro e w1 ⟨rfl, hw1⟩))
  have hw1' := wrote_drew hw1
  have HX1 := Lib.hid hw1'
  obtain ⟨v1, a1, a2, a3, a4⟩ := hw1'
  have HW1 := Lib.hid a1
  have HA1 := Lib.hid (And.intro a2 (And.intro a3 a4))
  have HC1 := Lib.hid (wrote_blk HX1.out HC0.out hbg HV0.out)
  have HV1 := Lib.hid (show v1.ownBlock ≠ some b by
    intro e
    rcases a4 with h | ⟨b', h, hb'⟩
    · exact HV0.out (h ▸ e)
    · rw [h] at e
      cases e
      have := blk_lt HC0.out
      omega)
  clear hw1 a1 a2 a3 a4
  have HU2 := Lib.hid (out_byte w1.drew base go v1 (xs ++ Wr.leBytes R.frame 8) (by exact HW1.out) (by (repeat rw [List.length_append]); (repeat rw [Wr.leBytes_len]); omega) b 2 R.own (blk_cell (w := w1.drew) HC1.out 2) HR.out.2.2.1 HR.out.2.2.2)
  go_wp2_with fail
  go_region_with (first | (go_at_call 79; refine (HU2.out).mono ?_; rintro e w2 ⟨rfl, hw2⟩))
  have hw2' := wrote_drew hw2
  have HX2 := Lib.hid hw2'
  obtain ⟨v2, a1, a2, a3, a4⟩ := hw2'
  have HW2 := Lib.hid a1
  have HA2 := Lib.hid (And.intro a2 (And.intro a3 a4))
  have HC2 := Lib.hid (wrote_blk HX2.out HC1.out hbg HV1.out)
  have HV2 := Lib.hid (show v2.ownBlock ≠ some b by
    intro e
    rcases a4 with h | ⟨b', h, hb'⟩
    · exact HV1.out (h ▸ e)
    · rw [h] at e
      cases e
      have := blk_lt HC1.out
      omega)
  clear hw2 a1 a2 a3 a4
  go_wp2
  go_ret
  refine ⟨rfl, ?_⟩
  exact (wrote_app HA1.out HX2.out)
set_option maxHeartbeats 4000000 in
set_option maxRecDepth 100000 in
theorem out_fields2 (w : World) (base go : Nat) (v : Value) (xs : List Int) (hW : Wq.IsW w base go v xs) (hl : xs.length ≤ 100) (b : Nat) (R : Rec) (hk : R.kind = 2) (hb : w.heap[b]? = some (.cells R.cells 51 (0, 0))) (hbg : b ≠ go) (hbv : v.ownBlock ≠ some b) (hr : 0 ≤ R.frame ∧ R.frame < 18446744073709551616 ∧ 0 ≤ R.p0 ∧ R.p0 < 256 ∧ 0 ≤ R.p1 ∧ R.p1 < 256) :
    Calls Tryd.prog 70 #[.pointer (some ⟨b, 0, none⟩), .iface 142 (.pointer (some ⟨go, 0, none⟩))] w fun e w' => e = .returned (.bool true) ∧ Wq.Wrote w w' base go v (xs ++ Wr.leBytes R.frame 8 ++ Wr.leBytes R.p0 1 ++ Wr.leBytes R.p1 1) := by
  have c0 : w.cell? ⟨b, 0, none⟩ = some (.int .i64 2) := by rw [← hk]; exact blk_cell hb 0
  have HW0 := Lib.hid hW
  have HC0 := Lib.hid hb
  have HV0 := Lib.hid hbv
  have HR := Lib.hid hr
  have f1 := na_out_long ⟨go, 0, none⟩
  have f2 := na_out_byte ⟨go, 0, none⟩
  have f3 := m_out_long ⟨go, 0, none⟩
  have f4 := m_out_byte ⟨go, 0, none⟩
  have HKD := Lib.hid hk
  have hlt := blk_lt hb
  clear hW hb hbv hr hk
  go_enter Tryd.func70, Tryd.ntmps70
  have HU1 := Lib.hid (out_long w.drew base go v xs (by exact HW0.out) (by (repeat rw [List.length_append]); (repeat rw [Wr.leBytes_len]); omega) b 1 R.frame (blk_cell (w := w.drew) HC0.out 1) HR.out.1 HR.out.2.1)
  go_wp2_with fail
  go_region_with (first | (go_at_call 107; refine (HU1.out).mono ?_; rintro e w1 ⟨rfl, hw1⟩))
  have hw1' := wrote_drew hw1
  have HX1 := Lib.hid hw1'
  obtain ⟨v1, a1, a2, a3, a4⟩ := hw1'
  have HW1 := Lib.hid a1
  have HA1 := Lib.hid (And.intro a2 (And.intro a3 a4))
  have HC1 := Lib.hid (wrote_blk HX1.out HC0.out hbg HV0.out)
  have HV1 := Lib.hid (show v1.ownBlock ≠ some b by
    intro e
    rcases a4 with h | ⟨b', h, hb'⟩
    · exact HV0.out (h ▸ e)
    · rw [h] at e
      cases e
      have := blk_lt HC0.out
      omega)
  clear hw1 a1 a2 a3 a4
  have HU2 := Lib.hid (out_byte w1.drew base go v1 (xs ++ Wr.leBytes R.frame 8) (by exact HW1.out) (by (repeat rw [List.length_append]); (repeat rw [Wr.leBytes_len]); omega) b 3 R.p0 (blk_cell (w := w1.drew) HC1.out 3) HR.out.2.2.1 HR.out.2.2.2.1)
  go_wp2_with fail
  go_region_with (first | (go_at_call 79; refine (HU2.out).mono ?_; rintro e w2 ⟨rfl, hw2⟩))
  have hw2' := wrote_drew hw2
  have HX2 := Lib.hid hw2'
  obtain ⟨v2, a1, a2, a3, a4⟩ := hw2'
  have HW2 := Lib.hid a1
  have HA2 := Lib.hid (And.intro a2 (And.intro a3 a4))
  have HC2 := Lib.hid (wrote_blk HX2.out HC1.out hbg HV1.out)
  have HV2 := Lib.hid (show v2.ownBlock ≠ some b by
    intro e
    rcases a4 with h | ⟨b', h, hb'⟩
    · exact HV1.out (h ▸ e)
    · rw [h] at e
      cases e
      have := blk_lt HC1.out
      omega)
  clear hw2 a1 a2 a3 a4
  have HU3 := Lib.hid (out_byte w2.drew base go v2 (xs ++ Wr.leBytes R.frame 8 ++ Wr.leBytes R.p0 1) (by exact HW2.out) (by (repeat rw [List.length_append]); (repeat rw [Wr.leBytes_len]); omega) b 4 R.p1 (blk_cell (w := w2.drew) HC2.out 4) HR.out.2.2.2.2.1 HR.out.2.2.2.2.2)
  go_wp2_with fail
  go_region_with (first | (go_at_call 79; refine (HU3.out).mono ?_; rintro e w3 ⟨rfl, hw3⟩))
  have hw3' := wrote_drew hw3
  have HX3 := Lib.hid hw3'
  obtain ⟨v3, a1, a2, a3, a4⟩ := hw3'
  have HW3 := Lib.hid a1
  have HA3 := Lib.hid (And.intro a2 (And.intro a3 a4))
  have HC3 := Lib.hid (wrote_blk HX3.out HC2.out hbg HV2.out)
  have HV3 := Lib.hid (show v3.ownBlock ≠ some b by
    intro e
    rcases a4 with h | ⟨b', h, hb'⟩
    · exact HV2.out (h ▸ e)
    · rw [h] at e
      cases e
      have := blk_lt HC2.out
      omega)
  clear hw3 a1 a2 a3 a4
  go_wp2
  go_ret
  refine ⟨rfl, ?_⟩
  exact (wrote_app HA1.out (wrote_app HA2.out HX3.out))
set_option maxHeartbeats 4000000 in
set_option maxRecDepth 100000 in
theorem out_fields3 (w : World) (base go : Nat) (v : Value) (xs : List Int) (hW : Wq.IsW w base go v xs) (hl : xs.length ≤ 100) (b : Nat) (R : Rec) (hk : R.kind = 3) (hb : w.heap[b]? = some (.cells R.cells 51 (0, 0))) (hbg : b ≠ go) (hbv : v.ownBlock ≠ some b) (hr : 0 ≤ R.seg ∧ R.seg < 18446744073709551616 ∧ 0 ≤ R.first ∧ R.first < 18446744073709551616 ∧ 0 ≤ R.epoch ∧ R.epoch < 18446744073709551616 ∧ 0 ≤ R.player ∧ R.player < 256) :
    Calls Tryd.prog 70 #[.pointer (some ⟨b, 0, none⟩), .iface 142 (.pointer (some ⟨go, 0, none⟩))] w fun e w' => e = .returned (.bool true) ∧ Wq.Wrote w w' base go v (xs ++ Wr.leBytes R.seg 8 ++ Wr.leBytes R.first 8 ++ Wr.leBytes R.epoch 8 ++ Wr.leBytes R.player 1) := by
  have c0 : w.cell? ⟨b, 0, none⟩ = some (.int .i64 3) := by rw [← hk]; exact blk_cell hb 0
  have HW0 := Lib.hid hW
  have HC0 := Lib.hid hb
  have HV0 := Lib.hid hbv
  have HR := Lib.hid hr
  have f1 := na_out_long ⟨go, 0, none⟩
  have f2 := na_out_byte ⟨go, 0, none⟩
  have f3 := m_out_long ⟨go, 0, none⟩
  have f4 := m_out_byte ⟨go, 0, none⟩
  have HKD := Lib.hid hk
  have hlt := blk_lt hb
  clear hW hb hbv hr hk
  go_enter Tryd.func70, Tryd.ntmps70
  have HU1 := Lib.hid (out_long w.drew base go v xs (by exact HW0.out) (by (repeat rw [List.length_append]); (repeat rw [Wr.leBytes_len]); omega) b 5 R.seg (blk_cell (w := w.drew) HC0.out 5) HR.out.1 HR.out.2.1)
  go_wp2_with fail
  go_region_with (first | (go_at_call 107; refine (HU1.out).mono ?_; rintro e w1 ⟨rfl, hw1⟩))
  have hw1' := wrote_drew hw1
  have HX1 := Lib.hid hw1'
  obtain ⟨v1, a1, a2, a3, a4⟩ := hw1'
  have HW1 := Lib.hid a1
  have HA1 := Lib.hid (And.intro a2 (And.intro a3 a4))
  have HC1 := Lib.hid (wrote_blk HX1.out HC0.out hbg HV0.out)
  have HV1 := Lib.hid (show v1.ownBlock ≠ some b by
    intro e
    rcases a4 with h | ⟨b', h, hb'⟩
    · exact HV0.out (h ▸ e)
    · rw [h] at e
      cases e
      have := blk_lt HC0.out
      omega)
  clear hw1 a1 a2 a3 a4
  have HU2 := Lib.hid (out_long w1.drew base go v1 (xs ++ Wr.leBytes R.seg 8) (by exact HW1.out) (by (repeat rw [List.length_append]); (repeat rw [Wr.leBytes_len]); omega) b 6 R.first (blk_cell (w := w1.drew) HC1.out 6) HR.out.2.2.1 HR.out.2.2.2.1)
  go_wp2_with fail
  go_region_with (first | (go_at_call 107; refine (HU2.out).mono ?_; rintro e w2 ⟨rfl, hw2⟩))
  have hw2' := wrote_drew hw2
  have HX2 := Lib.hid hw2'
  obtain ⟨v2, a1, a2, a3, a4⟩ := hw2'
  have HW2 := Lib.hid a1
  have HA2 := Lib.hid (And.intro a2 (And.intro a3 a4))
  have HC2 := Lib.hid (wrote_blk HX2.out HC1.out hbg HV1.out)
  have HV2 := Lib.hid (show v2.ownBlock ≠ some b by
    intro e
    rcases a4 with h | ⟨b', h, hb'⟩
    · exact HV1.out (h ▸ e)
    · rw [h] at e
      cases e
      have := blk_lt HC1.out
      omega)
  clear hw2 a1 a2 a3 a4
  have HU3 := Lib.hid (out_long w2.drew base go v2 (xs ++ Wr.leBytes R.seg 8 ++ Wr.leBytes R.first 8) (by exact HW2.out) (by (repeat rw [List.length_append]); (repeat rw [Wr.leBytes_len]); omega) b 7 R.epoch (blk_cell (w := w2.drew) HC2.out 7) HR.out.2.2.2.2.1 HR.out.2.2.2.2.2.1)
  go_wp2_with fail
  go_region_with (first | (go_at_call 107; refine (HU3.out).mono ?_; rintro e w3 ⟨rfl, hw3⟩))
  have hw3' := wrote_drew hw3
  have HX3 := Lib.hid hw3'
  obtain ⟨v3, a1, a2, a3, a4⟩ := hw3'
  have HW3 := Lib.hid a1
  have HA3 := Lib.hid (And.intro a2 (And.intro a3 a4))
  have HC3 := Lib.hid (wrote_blk HX3.out HC2.out hbg HV2.out)
  have HV3 := Lib.hid (show v3.ownBlock ≠ some b by
    intro e
    rcases a4 with h | ⟨b', h, hb'⟩
    · exact HV2.out (h ▸ e)
    · rw [h] at e
      cases e
      have := blk_lt HC2.out
      omega)
  clear hw3 a1 a2 a3 a4
  have HU4 := Lib.hid (out_byte w3.drew base go v3 (xs ++ Wr.leBytes R.seg 8 ++ Wr.leBytes R.first 8 ++ Wr.leBytes R.epoch 8) (by exact HW3.out) (by (repeat rw [List.length_append]); (repeat rw [Wr.leBytes_len]); omega) b 8 R.player (blk_cell (w := w3.drew) HC3.out 8) HR.out.2.2.2.2.2.2.1 HR.out.2.2.2.2.2.2.2)
  go_wp2_with fail
  go_region_with (first | (go_at_call 79; refine (HU4.out).mono ?_; rintro e w4 ⟨rfl, hw4⟩))
  have hw4' := wrote_drew hw4
  have HX4 := Lib.hid hw4'
  obtain ⟨v4, a1, a2, a3, a4⟩ := hw4'
  have HW4 := Lib.hid a1
  have HA4 := Lib.hid (And.intro a2 (And.intro a3 a4))
  have HC4 := Lib.hid (wrote_blk HX4.out HC3.out hbg HV3.out)
  have HV4 := Lib.hid (show v4.ownBlock ≠ some b by
    intro e
    rcases a4 with h | ⟨b', h, hb'⟩
    · exact HV3.out (h ▸ e)
    · rw [h] at e
      cases e
      have := blk_lt HC3.out
      omega)
  clear hw4 a1 a2 a3 a4
  go_wp2
  go_ret
  refine ⟨rfl, ?_⟩
  exact (wrote_app HA1.out (wrote_app HA2.out (wrote_app HA3.out HX4.out)))
end Go.Proofs.YtnhjhaphfdlkfaaDoor.Sg
/- record.Take. -/
set_option linter.unusedVariables false
namespace Go.Proofs.YtnhjhaphfdlkfaaDoor.Sg
open Go.RowKit Go.Proofs.YtnhjhaphfdlkfaaDoor.HF Go.Proofs.YtnhjhaphfdlkfaaDoor.SB Go.Proofs.YtnhjhaphfdlkfaaDoorW.PrintWords Go.Proofs.YtnhjhaphfdlkfaaDoorW.PrintLast Go.Proofs.YtnhjhaphfdlkfaaDoorW.PrintMore
def Rec.right (R : Rec) : Bool := decide (R.own < 64) && (decide (R.p0 < 64) && (decide (R.p1 < 64) && decide (R.player ≤ 1)))
theorem rd_base {w0 w1 w : World} {g : Nat} {r : Option (List UInt8)} (h : IsRd w1 w g r) (hb : w0.heap.size ≤ w1.heap.size) : IsRd w0 w g r := ⟨h.1, Nat.le_trans hb h.2⟩
theorem blk_alloc {w : World} {b : Nat} {o : Obj} (h : w.heap[b]? = some o) (x : Obj) : (w.alloc x).heap[b]? = some o := (Below.heap_alloc w x b (blk_lt h)).trans h
theorem blk_alloc2 (w : World) (x y : Obj) : ((w.alloc x).alloc y).heap[w.heap.size + 1]? = some y := by
  have := heap_alloc_new (w.alloc x) y
  simpa using this
section
variable {P : Program} {ops : Array Oper} {rest : List Oper} {o : Oper} {a : Act} {Q : Exit → Act → World → Prop} {W : World}
theorem gate_load {t : TypeId} {p : Tmp} (_ho : o.op = .load t (.tmp p)) (h : wpList P ops Q (o :: rest) a W) : wpList P ops Q (o :: rest) a W := h
theorem Rec.size (R : Rec) : R.cells.size = 9 := rfl
theorem Rec.ones (R : Rec) : R.cells.all (·.oneCell') = true := by simp [Rec.cells, Value.oneCell']
/-- A record is stored into a block of its own. -/
theorem store_rec (hgd : o.guard = none) (ty : TypeId) (x y : Operand) (ho : o.op = .store ty x y) (hi : (P.info? ty).map (·.size) = some 9) (b : Nat) (T : TypeId) (R R0 : Rec) (hx : a.eval x = .pointer (some ⟨b, 0, none⟩)) (hy : a.eval y = R.val)
    (hb : W.heap[b]? = some (.cells R0.cells T (0, 0)))
    (h : ∀ w', w'.heap[b]? = some (.cells R.cells T (0, 0)) → Kept W w' (fun i => i = b) → (∀ B w0, B ≤ b → Below B w0 W → Below B w0 w') → wpList P ops Q rest (a.put o.dst undef) w') : wpList P ops Q (o :: rest) a W := by
  refine wpList_store_mid hgd ty x y ho b 0 R.cells hx hy ?_ hi R.ones ?_
  · intro j hj
    have hj' : j < R0.cells.size := hj
    refine ⟨?_, blk_frozen hb _⟩
    rw [Nat.zero_add, blk_cell hb j, Array.getElem?_eq_getElem hj']
    rfl
  · obtain ⟨cur, h1, h2, h3⟩ := setCells_row (g := b) R.cells.toList 0 W R0.cells hb (by rw [Array.length_toList, R.size, R0.size]; exact Nat.le_refl _)
    obtain ⟨s1, s2, s3, s4⟩ := setCells_same b R.cells.toList 0 W
    have hcur : cur = R.cells := by
      apply Array.toList_inj.1
      rw [h3, List.take_zero, List.nil_append, List.drop_eq_nil_of_le (by rw [Array.length_toList, Array.length_toList, R.size, R0.size]; exact Nat.le_refl _), List.append_nil]
    rw [hcur] at h1
    refine h _ h1 ⟨by rw [s4]; exact Nat.le_refl _, fun i _ hn => setCells_far _ _ i hn⟩ (fun B w0 hB hw => ?_)
    exact ⟨s1.trans hw.os, s2.trans hw.tape, s3.trans hw.output, by rw [s4]; exact hw.size, fun i hi => (setCells_far _ _ i (by omega)).trans (hw.block i hi)⟩
/-- A record is read, whole, out of a block of its own. -/
theorem load_rec (hgd : o.guard = none) (ty : TypeId) (x : Operand) (ho : o.op = .load ty x) (d : TypeDesc) (hu : P.underlying ty = some d) (hd : d.isRow = true) (hi : (P.info? ty).map (·.size) = some 9) (b : Nat) (T : TypeId) (R : Rec) (hx : a.eval x = .pointer (some ⟨b, 0, none⟩))
    (hb : W.heap[b]? = some (.cells R.cells T (0, 0))) (h : wpList P ops Q rest (a.put o.dst R.val) W) : wpList P ops Q (o :: rest) a W := by
  refine wpList_load_mid hgd ty x ho b 0 hx R.cells.toList d ?_ hu hd hi ?_
  · intro j v hv
    rw [Nat.zero_add, blk_cell hb j, ← Array.getElem?_toList]; exact hv
  · exact h
end
theorem info51 : (Tryd.prog.info? 51).map (·.size) = some 9 := by kernel_rfl
theorem take_res {tmps : Array Value} {w : World} (b : Nat) (R : Rec) (h2 : tmps.getD 2 undef = .pointer (some ⟨b, 0, none⟩)) (hb : w.heap[b]? = some (.cells R.cells 51 (0, 0))) : (results Tryd.f50 tmps).run Tryd.prog w = .ok (.tuple #[R.val, tmps.getD 3 undef]) w :=
  results_list (rs := [.cell 2 51, .tmp 3]) Tryd.results50 (by simp) (.cell b 51 R.cells (0, 0) _ h2 hb Tryd.underlying51 rfl info51 (.tmp .nil))
set_option maxHeartbeats 1000000 in
set_option maxRecDepth 100000 in
theorem right_calls (w : World) (R : Rec) : Calls Tryd.prog 71 #[R.val] w fun e w' => e = .returned (.bool R.right) ∧ Below w.heap.size w w' := by
  unfold Rec.val Rec.cells
  have hb : ∀ o m, Below w.heap.size w ((w.alloc o).drewN m) := fun o m => pw_below_drewN ((Below.refl w.heap.size w).alloc (Nat.le_refl _) o) m
  have HBB := Lib.hid hb
  clear hb
  by_cases h1 : R.own < 64
  · have d1 : decide (R.own < 64) = true := decide_eq_true h1
    by_cases h2 : R.p0 < 64
    · have d2 : decide (R.p0 < 64) = true := decide_eq_true h2
      by_cases h3 : R.p1 < 64
      · have d3 : decide (R.p1 < 64) = true := decide_eq_true h3
        have HF := Lib.hid (show R.right = decide (R.player ≤ 1) by unfold Rec.right; rw [d1, d2, d3]; simp)
        go_enter Tryd.func71, Tryd.ntmps71
        go_wp2_with (first | (go_at_call 87; refine (c_legal _ _).mono ?_; rintro e w1 ⟨rfl, ⟨m, rfl⟩⟩))
        go_ret
        exact ⟨by rw [HF.out]; rfl, HBB.out _ _⟩
      · have d3 : decide (R.p1 < 64) = false := decide_eq_false h3
        have HF := Lib.hid (show R.right = false by unfold Rec.right; rw [d3]; simp)
        go_enter Tryd.func71, Tryd.ntmps71
        go_wp2_with (first | (go_at_call 87; refine (c_legal _ _).mono ?_; rintro e w1 ⟨rfl, ⟨m, rfl⟩⟩))
        go_ret
        exact ⟨by rw [HF.out]; rfl, HBB.out _ _⟩
    · have d2 : decide (R.p0 < 64) = false := decide_eq_false h2
      have HF := Lib.hid (show R.right = false by unfold Rec.right; rw [d2]; simp)
      go_enter Tryd.func71, Tryd.ntmps71
      go_wp2_with (first | (go_at_call 87; refine (c_legal _ _).mono ?_; rintro e w1 ⟨rfl, ⟨m, rfl⟩⟩))
      go_ret
      exact ⟨by rw [HF.out]; rfl, HBB.out _ _⟩
  · have d1 : decide (R.own < 64) = false := decide_eq_false h1
    have HF := Lib.hid (show R.right = false by unfold Rec.right; rw [d1]; simp)
    go_enter Tryd.func71, Tryd.ntmps71
    go_wp2_with (first | (go_at_call 87; refine (c_legal _ _).mono ?_; rintro e w1 ⟨rfl, ⟨m, rfl⟩⟩))
    go_ret
    exact ⟨by rw [HF.out]; rfl, HBB.out _ _⟩
/-- What the fields of a record of a kind are, read. -/
def fieldsG (R : Rec) (r : Option (List UInt8)) : Rec × Option (List UInt8) :=
  if R.kind = 1 then ({ R with frame := (g 8 r).1, own := (g 1 (g 8 r).2).1 }, (g 1 (g 8 r).2).2)
  else if R.kind = 2 then ({ R with frame := (g 8 r).1, p0 := (g 1 (g 8 r).2).1, p1 := (g 1 (g 1 (g 8 r).2).2).1 }, (g 1 (g 1 (g 8 r).2).2).2)
  else ({ R with seg := (g 8 r).1, first := (g 8 (g 8 r).2).1, epoch := (g 8 (g 8 (g 8 r).2).2).1, player := (g 1 (g 8 (g 8 (g 8 r).2).2).2).1 }, (g 1 (g 8 (g 8 (g 8 r).2).2).2).2)
theorem in_fieldsG (w0 w : World) (gr : Nat) (r : Option (List UInt8)) (hI : IsRd w0 w gr r) (hs : small r) (hB : Below w0.heap.size w0 w) (b : Nat) (R : Rec) (hk : R.kind = 1 ∨ R.kind = 2 ∨ R.kind = 3) (hb : w.heap[b]? = some (.cells R.cells 51 (0, 0))) (hbg : b ≠ gr) (hb0 : w0.heap.size ≤ b) :
    Calls Tryd.prog 70 #[.pointer (some ⟨b, 0, none⟩), .iface 135 (.agg #[.pointer (some ⟨gr, 0, none⟩)])] w fun e w' =>
      e = .returned (.bool true) ∧ IsRd w0 w' gr (fieldsG R r).2 ∧ w'.heap[b]? = some (.cells (fieldsG R r).1.cells 51 (0, 0)) ∧ Below w0.heap.size w0 w' ∧ Kept w w' (fun i => i = gr ∨ i = b) := by
  unfold fieldsG
  rcases hk with h | h | h
  · rw [if_pos h]
    exact in_fields1 w0 w gr r hI hs hB b R h hb hbg hb0
  · rw [if_neg (by omega), if_pos h]
    exact in_fields2 w0 w gr r hI hs hB b R h hb hbg hb0
  · rw [if_neg (by omega), if_neg (by omega)]
    exact in_fields3 w0 w gr r hI hs hB b R h hb hbg hb0
def takeG (l : List UInt8) : Rec × Int :=
  if l = [] then (Rec.zero, 10)
  else if (g 1 (some l)).1 = 1 ∨ (g 1 (some l)).1 = 2 ∨ (g 1 (some l)).1 = 3 then
    (if (st (fieldsG { Rec.zero with kind := (g 1 (some l)).1 } (g 1 (some l)).2).2).2 = 0 then
      (if (st (fieldsG { Rec.zero with kind := (g 1 (some l)).1 } (g 1 (some l)).2).2).1 = bs [] ∧ (fieldsG { Rec.zero with kind := (g 1 (some l)).1 } (g 1 (some l)).2).1.right = true then ((fieldsG { Rec.zero with kind := (g 1 (some l)).1 } (g 1 (some l)).2).1, 0) else (Rec.zero, 4))
     else (Rec.zero, (st (fieldsG { Rec.zero with kind := (g 1 (some l)).1 } (g 1 (some l)).2).2).2))
  else (Rec.zero, 4)
theorem g1_range (r : Option (List UInt8)) : 0 ≤ (g 1 r).1 ∧ (g 1 r).1 < 256 := by
  cases r with
  | none => simp [g]
  | some l =>
    by_cases h : 1 ≤ l.length
    · rw [g_yes 1 l h]
      have := numN_lt (l.take 1)
      rw [List.length_take, Nat.min_eq_left h] at this
      exact ⟨by simp only; omega, by simp only; omega⟩
    · rw [g_no 1 l h]; simp
set_option maxHeartbeats 1000000 in
set_option maxRecDepth 100000 in
theorem take_calls (l : List UInt8) (hl : l.length ≤ 100000) (w : World) : Calls Tryd.prog 50 #[.string (bs l)] w fun e w' => e = .returned (.tuple #[(takeG l).1.val, .int .i64 (takeG l).2]) ∧ Below w.heap.size w w' := by
  by_cases h0 : l = []
  · have h0b : (bs l).toList.isEmpty = true := by rw [bs_toList, h0]; rfl
    have HT := Lib.hid (show takeG l = (Rec.zero, 10) from if_pos h0)
    clear h0
    go_enter Tryd.func50, Tryd.ntmps50
    go_wp2_with fail
    rw [HT.out]
    exact bodyPost_ret (v := .tuple #[Rec.zero.val, .int .i64 10]) (by simp [results, Tryd.results50, go_sem, Rec.zero, Rec.val, Rec.cells]) rfl ⟨rfl, (Below.refl _ _).alloc (Nat.le_refl _) _⟩
  · have h0b : (bs l).toList.isEmpty = false := by rw [bs_toList]; cases l; exact absurd rfl h0; rfl
    have HN := Lib.hid (fun W => c_new l W)
    have HTK := Lib.hid (show takeG l = _ from if_neg h0)
    have hkr := g1_range (some l)
    have hs1 : small (g 1 (some l)).2 := g_small 1 (some l) (fun x hx => by cases hx; exact hl)
    clear h0
    go_enter Tryd.func50, Tryd.ntmps50
    go_wp2_with fail
    refine (HN.out _).mono ?_
    rintro e w1 ⟨gr, rfl, hI1, hB1⟩
    have HI1 := Lib.hid (rd_base (w0 := w) hI1 (by simp))
    have HB1 := Lib.hid (((Below.refl w.heap.size w).alloc (Nat.le_refl _) _).trans (hB1.mono (by simp)))
    have HZ1 := Lib.hid (show w1.heap[w.heap.size]? = some (.cells Rec.zero.cells 51 (0, 0)) from (hB1.block _ (by simp)).trans (heap_alloc_new w _))
    have hw1 : w.heap.size + 1 ≤ w1.heap.size := by simpa using hB1.size
    have hgr1 : gr < w1.heap.size := rd_lt HI1.out
    have hgr0 : w.heap.size + 1 ≤ gr := by have := rd_ge hI1; simpa using this
    clear hI1 hB1
    go_wp2_with fail
    refine (in_byte w _ gr (some l) (rd_kept HI1.out (((Kept.refl w1 (fun _ => False)).alloc _).alloc _) (fun h => h)) (fun x hx => by cases hx; exact hl) ((HB1.out.alloc HB1.out.size _).alloc (by simp; omega) _) (w1.heap.size + 1) 0 #[.int .u8 0] 5 (by exact blk_alloc2 _ _ _) (by decide) (by omega) (by omega)).mono ?_
    rintro e w2 ⟨rfl, hI2, hb2, hB2, hK2⟩
    have HZ2 := Lib.hid (blk_kept (blk_alloc (blk_alloc HZ1.out (.cells #[.pointer (some ⟨gr, 0, none⟩)] 135)) (.cells #[.int .u8 0] 5)) hK2 (by omega))
    have HP2 := Lib.hid (blk_kept (blk_alloc (heap_alloc_new w1 (.cells #[.pointer (some ⟨gr, 0, none⟩)] 135)) (.cells #[.int .u8 0] 5)) hK2 (by omega))
    have hw2 : w1.heap.size + 2 ≤ w2.heap.size := by have := hK2.1; simpa using this
    have cp : w2.cell? ⟨w1.heap.size, 0, none⟩ = some (.pointer (some ⟨gr, 0, none⟩)) := (blk_cell HP2.out 0).trans rfl
    have ck : w2.cell? ⟨w1.heap.size + 1, 0, none⟩ = some (.int .u8 (g 1 (some l)).1) := (blk_cell hb2 0).trans rfl
    have HI2 := Lib.hid hI2
    have HB2 := Lib.hid hB2
    clear hI2 hb2 hB2 hK2
    have HTK2 := HTK.out
    clear HTK
    generalize (g 1 (some l)).1 = kb at *
    generalize (g 1 (some l)).2 = r1 at *
    have HTK := Lib.hid HTK2
    clear HTK2
    have hlt12 : w1.heap.size < w2.heap.size := by omega
    have hlt12' : w1.heap.size + 1 < w2.heap.size := by omega
    by_cases hk : kb = 1 ∨ kb = 2 ∨ kb = 3
    · have HK := Lib.hid hk
      clear hk
      go_wp2_with fail
      refine (in_fieldsG w _ gr r1 (rd_kept HI2.out ((Kept.refl w2 (fun _ => False)).alloc _) (fun h => h)) hs1 (HB2.out.alloc HB2.out.size _) w2.heap.size ({ Rec.zero with kind := kb } : Rec) HK.out (by exact heap_alloc_new w2 _) (by omega) (by omega)).mono ?_
      rintro e w3 ⟨rfl, hI3, hb3, hB3, hK3⟩
      have HZ3 := Lib.hid (blk_kept (blk_alloc HZ2.out (.cells ({ Rec.zero with kind := kb } : Rec).cells 51)) hK3 (by omega))
      have HP3 := Lib.hid (blk_kept (blk_alloc HP2.out (.cells ({ Rec.zero with kind := kb } : Rec).cells 51)) hK3 (by omega))
      have hw3 : w2.heap.size + 1 ≤ w3.heap.size := by have := hK3.1; simpa using this
      have cp3 : w3.cell? ⟨w1.heap.size, 0, none⟩ = some (.pointer (some ⟨gr, 0, none⟩)) := (blk_cell HP3.out 0).trans rfl
      have HTK2 := HTK.out
      rw [if_pos HK.out] at HTK2
      clear HTK
      generalize hF : fieldsG ({ Rec.zero with kind := kb } : Rec) r1 = FG at *
      obtain ⟨R, r2⟩ := FG
      have HTK := Lib.hid HTK2
      have HI3 := Lib.hid hI3
      have HBk3 := Lib.hid hb3
      have HB3 := Lib.hid hB3
      clear HTK2 hI3 hb3 hB3 hK3 hF
      go_wp2_with fail
      refine (c_err w w3 gr r2 HI3.out HB3.out).mono ?_
      rintro e w4 ⟨rfl, hI4, hB4, hK4⟩
      have HZ4 := Lib.hid (blk_kept HZ3.out hK4 (by omega))
      have HP4 := Lib.hid (blk_kept HP3.out hK4 (by omega))
      have HBk4 := Lib.hid (blk_kept HBk3.out hK4 (by omega))
      have cp4 : w4.cell? ⟨w1.heap.size, 0, none⟩ = some (.pointer (some ⟨gr, 0, none⟩)) := (blk_cell HP4.out 0).trans rfl
      have HI4 := Lib.hid hI4
      have HB4 := Lib.hid hB4
      clear hI4 hB4 hK4
      by_cases he : (st r2).2 = 0
      · have heb : ((st r2).2 != 0) = false := by simp [he]
        have HTK2 := HTK.out
        rw [if_pos he] at HTK2
        have HE := Lib.hid he
        clear HTK he
        go_wp2_with fail
        refine (c_rest w w4 gr r2 HI4.out HB4.out).mono ?_
        rintro e w5 ⟨rfl, hI5, hB5, hK5⟩
        have HZ5 := Lib.hid (blk_kept HZ4.out hK5 (by omega))
        have HBk5 := Lib.hid (blk_kept HBk4.out hK5 (by omega))
        have HB5 := Lib.hid hB5
        clear hI5 hB5 hK5
        by_cases hr : (st r2).1 = bs []
        · have hrb : (st r2).1.toList.isEmpty = true := by rw [hr, bs_toList]; rfl
          have hrc : (st r2).1.toList = [] := by rw [hr, bs_toList]
          cases hg : R.right
          · rw [if_neg (fun h => by rw [hg] at h; cases h.2)] at HTK2
            have HTK3 := Lib.hid HTK2
            have HR0 := Lib.hid (right_calls w5 R)
            rw [hg] at HR0
            clear HTK2 hr hg
            go_wp2_with (first | ((with_reducible refine gate_load (t := 51) (p := 6) rfl ?_); refine gate_guard (by rfl) ?_; refine load_rec rfl 51 (.tmp 6) rfl _ Tryd.underlying51 rfl info51 w2.heap.size 51 R rfl HBk5.out ?_))
            refine (HR0.out).mono ?_
            rintro e w6 ⟨rfl, hb6⟩
            have HZ6 := Lib.hid (blk_kept HZ5.out (Kept.of_below hb6 (fun _ => False)) (fun h => h))
            have HB6 := Lib.hid (HB5.out.trans (hb6.mono HB5.out.size))
            clear hb6
            go_wp2_with (first | ((with_reducible refine gate_store (t := 51) (p := 2) rfl ?_); refine store_rec rfl 51 (.tmp 2) (.tmp 40) rfl info51 w.heap.size 51 Rec.zero Rec.zero rfl rfl HZ6.out ?_; intro w7 hz7 hk7 hb7; have HZ7 := Lib.hid hz7; have HB7 := Lib.hid (hb7 w.heap.size w (Nat.le_refl _) HB6.out); clear hz7 hk7 hb7))
            rw [HTK3.out]
            exact bodyPost_ret (v := .tuple #[Rec.zero.val, .int .i64 4]) (take_res w.heap.size Rec.zero rfl HZ7.out) rfl ⟨rfl, HB7.out⟩
          · rw [if_pos ⟨hr, hg⟩] at HTK2
            have HTK3 := Lib.hid HTK2
            have HR0 := Lib.hid (right_calls w5 R)
            rw [hg] at HR0
            clear HTK2 hr hg
            go_wp2_with (first | ((with_reducible refine gate_load (t := 51) (p := 6) rfl ?_); refine gate_guard (by rfl) ?_; refine load_rec rfl 51 (.tmp 6) rfl _ Tryd.underlying51 rfl info51 w2.heap.size 51 R rfl HBk5.out ?_))
            refine (HR0.out).mono ?_
            rintro e w6 ⟨rfl, hb6⟩
            have HZ6 := Lib.hid (blk_kept HZ5.out (Kept.of_below hb6 (fun _ => False)) (fun h => h))
            have HBk6 := Lib.hid (blk_kept HBk5.out (Kept.of_below hb6 (fun _ => False)) (fun h => h))
            have HB6 := Lib.hid (HB5.out.trans (hb6.mono HB5.out.size))
            clear hb6
            go_wp2_with (first | ((with_reducible refine gate_load (t := 51) (p := 6) rfl ?_); refine load_rec rfl 51 (.tmp 6) rfl _ Tryd.underlying51 rfl info51 w2.heap.size 51 R rfl HBk6.out ?_) | ((with_reducible refine gate_store (t := 51) (p := 2) rfl ?_); refine store_rec rfl 51 (.tmp 2) (.tmp 41) rfl info51 w.heap.size 51 R Rec.zero rfl rfl HZ6.out ?_; intro w7 hz7 hk7 hb7; have HZ7 := Lib.hid hz7; have HB7 := Lib.hid (hb7 w.heap.size w (Nat.le_refl _) HB6.out); clear hz7 hk7 hb7))
            rw [HTK3.out]
            exact bodyPost_ret (v := .tuple #[R.val, .int .i64 0]) (take_res w.heap.size R rfl HZ7.out) rfl ⟨rfl, HB7.out⟩
        · rw [if_neg (fun h => hr h.1)] at HTK2
          have HTK3 := Lib.hid HTK2
          have hrb : (st r2).1.toList.isEmpty = false := by
            cases hl : (st r2).1.toList with
            | nil => exact absurd ((Lib.bytes_beq_iff _ _).1 (show ((st r2).1.toList == (bs []).toList) = true by rw [hl, bs_toList]; rfl)) hr
            | cons x y => rfl
          have hrc : (st r2).1.toList ≠ [] := by intro h; rw [h] at hrb; cases hrb
          clear HTK2 hr
          go_wp2_with (first | ((with_reducible refine gate_store (t := 51) (p := 2) rfl ?_); refine store_rec rfl 51 (.tmp 2) (.tmp 40) rfl info51 w.heap.size 51 Rec.zero Rec.zero rfl rfl HZ5.out ?_; intro w7 hz7 hk7 hb7; have HZ7 := Lib.hid hz7; have HB7 := Lib.hid (hb7 w.heap.size w (Nat.le_refl _) HB5.out); clear hz7 hk7 hb7))
          rw [HTK3.out]
          exact bodyPost_ret (v := .tuple #[Rec.zero.val, .int .i64 4]) (take_res w.heap.size Rec.zero rfl HZ7.out) rfl ⟨rfl, HB7.out⟩
      · have heb : ((st r2).2 != 0) = true := by simp [he]
        have HTK2 := HTK.out
        rw [if_neg he] at HTK2
        have HTK3 := Lib.hid HTK2
        clear HTK HTK2 he
        go_wp2_with (first | ((with_reducible refine gate_store (t := 51) (p := 2) rfl ?_); refine store_rec rfl 51 (.tmp 2) (.tmp 29) rfl info51 w.heap.size 51 Rec.zero Rec.zero rfl rfl HZ4.out ?_; intro w5 hz5 hk5 hb5; have HZ5 := Lib.hid hz5; have HB5 := Lib.hid (hb5 w.heap.size w (Nat.le_refl _) HB4.out); clear hz5 hk5 hb5))
        rw [HTK3.out]
        exact bodyPost_ret (v := .tuple #[Rec.zero.val, .int .i64 (st r2).2]) (take_res w.heap.size Rec.zero rfl HZ5.out) rfl ⟨rfl, HB5.out⟩
    · have HTK9 := HTK.out
      rw [if_neg hk] at HTK9
      have HTK := Lib.hid HTK9
      clear HTK9
      go_wp2_with fail
      refine (fields_none (w2.alloc _) w2.heap.size ({ Rec.zero with kind := kb } : Rec) ⟨fun h => hk (Or.inl h), fun h => hk (Or.inr (Or.inl h)), fun h => hk (Or.inr (Or.inr h))⟩ (by exact heap_alloc_new w2 _) _).mono ?_
      rintro e w3 ⟨rfl, hw3⟩
      have HZ3 := Lib.hid (blk_alloc HZ2.out (.cells ({ Rec.zero with kind := kb } : Rec).cells 51))
      have HB3 := Lib.hid (HB2.out.alloc HB2.out.size (.cells ({ Rec.zero with kind := kb } : Rec).cells 51))
      rw [show (w2.alloc (.cells #[.int .i64 kb, .int .u64 0, .int .u8 0, .int .u8 0, .int .u8 0, .int .u64 0, .int .u64 0, .int .u64 0, .int .u8 0] 51)) = w2.alloc (.cells ({ Rec.zero with kind := kb } : Rec).cells 51) from rfl] at hw3
      rw [hw3] at HZ3 HB3
      have HTK3 := Lib.hid HTK.out
      clear hw3 HTK
      go_wp2_with (first | ((with_reducible refine gate_store (t := 51) (p := 2) rfl ?_); refine store_rec rfl 51 (.tmp 2) (.tmp 23) rfl info51 w.heap.size 51 Rec.zero Rec.zero rfl rfl HZ3.out ?_; intro w7 hz7 hk7 hb7; have HZ7 := Lib.hid hz7; have HB7 := Lib.hid (hb7 w.heap.size w (Nat.le_refl _) HB3.out); clear hz7 hk7 hb7))
      rw [HTK3.out]
      exact bodyPost_ret (v := .tuple #[Rec.zero.val, .int .i64 4]) (take_res w.heap.size Rec.zero rfl HZ7.out) rfl ⟨rfl, HB7.out⟩
end Go.Proofs.YtnhjhaphfdlkfaaDoor.Sg
/- Records compared. -/
set_option linter.unusedVariables false
namespace Go.Proofs.YtnhjhaphfdlkfaaDoor.Sg
open Go.RowKit Go.Proofs.YtnhjhaphfdlkfaaDoor.HF Go.Proofs.YtnhjhaphfdlkfaaDoor.SB Go.Proofs.YtnhjhaphfdlkfaaDoorW.PrintWords Go.Proofs.YtnhjhaphfdlkfaaDoorW.PrintLast Go.Proofs.YtnhjhaphfdlkfaaDoorW.PrintMore
def recEqB (A B : Rec) : Bool := A.kind == B.kind && (A.frame == B.frame && (A.own == B.own && ((A.p0 == B.p0 && A.p1 == B.p1) && (A.seg == B.seg && (A.first == B.first && (A.epoch == B.epoch && A.player == B.player))))))
theorem recEqB_is (A B : Rec) : recEqB A B = decide (A = B) := by
  rw [Bool.eq_iff_iff, decide_eq_true_iff]
  unfold recEqB
  obtain ⟨a1, a2, a3, a4, a5, a6, a7, a8, a9⟩ := A
  obtain ⟨b1, b2, b3, b4, b5, b6, b7, b8, b9⟩ := B
  simp only [Bool.and_eq_true, beq_iff_eq, Rec.mk.injEq]
  constructor
  · rintro ⟨h1, h2, h3, ⟨h4, h5⟩, h6, h7, h8, h9⟩; exact ⟨h1, h2, h3, h4, h5, h6, h7, h8, h9⟩
  · rintro ⟨h1, h2, h3, h4, h5, h6, h7, h8, h9⟩; exact ⟨h1, h2, h3, ⟨h4, h5⟩, h6, h7, h8, h9⟩
set_option maxHeartbeats 4000000 in
set_option linter.unusedSimpArgs false in
theorem eqA49 (d : Nat) (w : World) (a b x y : Int) : (Op.equalIn (d + 2) 49 (.agg #[.int .u8 a, .int .u8 b]) (.agg #[.int .u8 x, .int .u8 y])).run Tryd.prog w = .ok (a == x && b == y) w := by
  have ha : ∀ w, (isAgg 47).run Tryd.prog w = .ok false w := fun _ => by kernel_rfl
  have hu := fun w => run_underlying (P := Tryd.prog) Tryd.underlying47 w
  have hp : ∀ (v : Array Value) (i : Nat) (u : Value), v[i]? = some u → (part 47 v i).run Tryd.prog w = .ok u w := fun v i u h => by
    simp only [part, Sem.run_bind, ha, Result.andThen_ok]
    simp [h]
  have he : ∀ (p q : Int), (Op.equalIn (d + 1) 47 (.int .u8 p) (.int .u8 q)).run Tryd.prog w = .ok (p == q) w := fun p q => run_equalIn_int w d 47 .u8 .u8 p q Tryd.underlying47
  have hs : (sizeOf 47).run Tryd.prog w = .ok 1 w := by kernel_rfl
  unfold Op.equalIn
  simp only [Sem.run_bind, run_underlying (P := Tryd.prog) Tryd.underlying49, Result.andThen_ok, hs]
  have p0 := hp #[.int .u8 a, .int .u8 b] 0 (.int .u8 a) rfl
  have p1 := hp #[.int .u8 a, .int .u8 b] 1 (.int .u8 b) rfl
  have q0 := hp #[.int .u8 x, .int .u8 y] 0 (.int .u8 x) rfl
  have q1 := hp #[.int .u8 x, .int .u8 y] 1 (.int .u8 y) rfl
  have hr : (forIn [:2] ((none, ()) : Option Bool × Unit) fun i __s => do
            let v ← part 47 #[Value.int IntKind.u8 a, Value.int IntKind.u8 b] (i * 1)
            let u ← part 47 #[Value.int IntKind.u8 x, Value.int IntKind.u8 y] (i * 1)
            let r ← Op.equalIn (d + 1) 47 v u
            if (!r) = true then pure (ForInStep.done (some false, ())) else (pure (ForInStep.yield (none, ())) : Sem _)).run Tryd.prog w = .ok (if (a == x && b == y) = true then (none, ()) else (some false, ())) w := by
    rw [Std.Legacy.Range.forIn_eq_forIn_range']
    rw [show List.range' ([:2] : Std.Legacy.Range).start ([:2] : Std.Legacy.Range).size ([:2] : Std.Legacy.Range).step = [0, 1] from rfl]
    simp only [List.forIn_cons, List.forIn_nil, Sem.run_bind, p0, p1, q0, q1, he, Result.andThen_ok, Nat.zero_mul, Nat.one_mul]
    cases h1 : a == x <;> cases h2 : b == y <;> first | (simp [p0, p1, q0, q1, he]; done) | (simp [p0, p1, q0, q1, he]; simpa using h2)
  rw [hr]
  cases a == x <;> cases b == y <;> rfl
set_option maxHeartbeats 1000000 in
theorem eqA51 (d : Nat) (w : World) (A B : Rec) : (Op.equalIn (d + 3) 51 A.val B.val).run Tryd.prog w = .ok (decide (A = B)) w := by
  rw [← recEqB_is]
  unfold Rec.val recEqB Rec.cells
  refine eqA_of Tryd.underlying51 (by kernel_rfl) ?_
  refine eqf_cons (by rfl) (by go_simp; rfl) (by go_simp; rfl) (by go_simp) ?_
  refine eqf_cons (by rfl) (by go_simp; rfl) (by go_simp; rfl) (by go_simp) ?_
  refine eqf_cons (by rfl) (by go_simp; rfl) (by go_simp; rfl) (by go_simp) ?_
  refine eqf_cons (by rfl) (a := .agg #[.int .u8 A.p0, .int .u8 A.p1]) (b := .agg #[.int .u8 B.p0, .int .u8 B.p1]) (by kernel_rfl) (by kernel_rfl) (eqA49 d w _ _ _ _) ?_
  refine eqf_cons (by rfl) (by go_simp; rfl) (by go_simp; rfl) (by go_simp) ?_
  refine eqf_cons (by rfl) (by go_simp; rfl) (by go_simp; rfl) (by go_simp) ?_
  refine eqf_cons (by rfl) (by go_simp; rfl) (by go_simp; rfl) (by go_simp) ?_
  exact eqf_last (by rfl) (by go_simp; rfl) (by go_simp; rfl) (by go_simp)
theorem guard51 (op : BinOp) (x y : Operand) (A B : Rec) (w : World) : (eqGuard op 51 x y A.val B.val).run Tryd.prog w = .ok () w := run_eqGuard_agg w op 51 x y _ _ (by kernel_rfl)
theorem eql51 (A B : Rec) (w : World) : (binOp .eql 51 A.val B.val).run Tryd.prog w = .ok (.bool (decide (A = B))) w := by
  have h := eqA51 9997 w A B
  unfold Rec.val at h ⊢
  rw [run_eql_struct, h]
  rfl
theorem neq51 (A B : Rec) (w : World) : (binOp .neq 51 A.val B.val).run Tryd.prog w = .ok (.bool (!decide (A = B))) w := by
  have h := eqA51 9997 w A B
  unfold Rec.val at h ⊢
  rw [run_neq_struct, h]
  rfl
/-! The document's records: of another type, alike. -/
theorem info55 : (Tryd.prog.info? 55).map (·.size) = some 9 := by kernel_rfl
set_option maxHeartbeats 1000000 in
theorem eqA55 (d : Nat) (w : World) (A B : Rec) : (Op.equalIn (d + 3) 55 A.val B.val).run Tryd.prog w = .ok (decide (A = B)) w := by
  rw [← recEqB_is]
  unfold Rec.val recEqB Rec.cells
  refine eqA_of Tryd.underlying55 (by kernel_rfl) ?_
  refine eqf_cons (by rfl) (by go_simp; rfl) (by go_simp; rfl) (by go_simp) ?_
  refine eqf_cons (by rfl) (by go_simp; rfl) (by go_simp; rfl) (by go_simp) ?_
  refine eqf_cons (by rfl) (by go_simp; rfl) (by go_simp; rfl) (by go_simp) ?_
  refine eqf_cons (by rfl) (a := .agg #[.int .u8 A.p0, .int .u8 A.p1]) (b := .agg #[.int .u8 B.p0, .int .u8 B.p1]) (by kernel_rfl) (by kernel_rfl) (eqA49 d w _ _ _ _) ?_
  refine eqf_cons (by rfl) (by go_simp; rfl) (by go_simp; rfl) (by go_simp) ?_
  refine eqf_cons (by rfl) (by go_simp; rfl) (by go_simp; rfl) (by go_simp) ?_
  refine eqf_cons (by rfl) (by go_simp; rfl) (by go_simp; rfl) (by go_simp) ?_
  exact eqf_last (by rfl) (by go_simp; rfl) (by go_simp; rfl) (by go_simp)
end Go.Proofs.YtnhjhaphfdlkfaaDoor.Sg
/- record.Put, of records that may be. -/
set_option linter.unusedVariables false
namespace Go.Proofs.YtnhjhaphfdlkfaaDoor.Sg
open Go.RowKit Go.Proofs.YtnhjhaphfdlkfaaDoor.HF Go.Proofs.YtnhjhaphfdlkfaaDoor.SB Go.Proofs.YtnhjhaphfdlkfaaDoorW.PrintWords Go.Proofs.YtnhjhaphfdlkfaaDoorW.PrintLast Go.Proofs.YtnhjhaphfdlkfaaDoorW.PrintMore
/-- A record that may be: its kind's fields alone are not 0. -/
def Rec.may (R : Rec) : Prop :=
  (R.kind = 1 ∧ R = { Rec.zero with kind := 1, frame := R.frame, own := R.own } ∧ (0 ≤ R.frame ∧ R.frame < 18446744073709551616) ∧ 0 ≤ R.own ∧ R.own < 64) ∨
  (R.kind = 2 ∧ R = { Rec.zero with kind := 2, frame := R.frame, p0 := R.p0, p1 := R.p1 } ∧ (0 ≤ R.frame ∧ R.frame < 18446744073709551616) ∧ (0 ≤ R.p0 ∧ R.p0 < 64) ∧ 0 ≤ R.p1 ∧ R.p1 < 64) ∨
  (R.kind = 3 ∧ R = { Rec.zero with kind := 3, seg := R.seg, first := R.first, epoch := R.epoch, player := R.player } ∧ (0 ≤ R.seg ∧ R.seg < 18446744073709551616) ∧ (0 ≤ R.first ∧ R.first < 18446744073709551616) ∧ (0 ≤ R.epoch ∧ R.epoch < 18446744073709551616) ∧ 0 ≤ R.player ∧ R.player ≤ 1)
/-- Its text. -/
def Rec.bytes (R : Rec) : List Int :=
  Wr.leBytes R.kind 1 ++ (if R.kind = 1 then Wr.leBytes R.frame 8 ++ Wr.leBytes R.own 1 else if R.kind = 2 then Wr.leBytes R.frame 8 ++ Wr.leBytes R.p0 1 ++ Wr.leBytes R.p1 1 else Wr.leBytes R.seg 8 ++ Wr.leBytes R.first 8 ++ Wr.leBytes R.epoch 8 ++ Wr.leBytes R.player 1)
def Rec.text (R : Rec) : List UInt8 := enc R.bytes
theorem may_right {R : Rec} (h : R.may) : R.right = true := by
  unfold Rec.right
  rcases h with ⟨_, e, _, h1, h2⟩ | ⟨_, e, _, ⟨h1, h2⟩, h3, h4⟩ | ⟨_, e, _, _, _, h1, h2⟩
  · rw [e]; simp [Rec.zero]; exact h2
  · rw [e]; simp [Rec.zero]; exact ⟨h2, h4⟩
  · rw [e]; simp [Rec.zero]; exact h2
/-- Put, then taken: the same. -/
theorem take_text {R : Rec} (h : R.may) : takeG R.text = (R, 0) := by
  have hr := may_right h
  have hne : R.text ≠ [] := by
    unfold Rec.text Rec.bytes
    rw [enc_append]
    intro e
    have := congrArg List.length e
    rw [List.length_append, enc_len, Wr.leBytes_len] at this
    simp at this
  unfold takeG
  rw [if_neg hne]
  rcases h with ⟨hk, e, h1, h2, h3⟩ | ⟨hk, e, h1, ⟨h2, h3⟩, h4, h5⟩ | ⟨hk, e, h1, h2, h3, h4, h5⟩
  · have ht : R.text = enc (Wr.leBytes 1 1) ++ (enc (Wr.leBytes R.frame 8) ++ (enc (Wr.leBytes R.own 1) ++ [])) := by
      unfold Rec.text Rec.bytes
      rw [hk, if_pos rfl, enc_append, enc_append, List.append_nil]
    rw [ht, g_enc1 1 (by omega) (by omega)]
    dsimp only
    rw [if_pos (Or.inl rfl)]
    have hf : fieldsG { Rec.zero with kind := 1 } (some (enc (Wr.leBytes R.frame 8) ++ (enc (Wr.leBytes R.own 1) ++ []))) = (R, some []) := by
      unfold fieldsG
      rw [if_pos rfl, g_enc8 R.frame h1]
      dsimp only
      rw [g_enc1 R.own h2 (by omega)]
      dsimp only
      rw [← e]
    rw [hf]
    rw [if_pos (show (st (some ([] : List UInt8))).2 = 0 from rfl), if_pos ⟨rfl, hr⟩]
  · have ht : R.text = enc (Wr.leBytes 2 1) ++ (enc (Wr.leBytes R.frame 8) ++ (enc (Wr.leBytes R.p0 1) ++ (enc (Wr.leBytes R.p1 1) ++ []))) := by
      unfold Rec.text Rec.bytes
      rw [hk, if_neg (by omega), if_pos rfl, enc_append, enc_append, enc_append, List.append_nil, List.append_assoc]
    rw [ht, g_enc1 2 (by omega) (by omega)]
    dsimp only
    rw [if_pos (Or.inr (Or.inl rfl))]
    have hf : fieldsG { Rec.zero with kind := 2 } (some (enc (Wr.leBytes R.frame 8) ++ (enc (Wr.leBytes R.p0 1) ++ (enc (Wr.leBytes R.p1 1) ++ [])))) = (R, some []) := by
      unfold fieldsG
      rw [if_neg (by show ¬ (2 : Int) = 1; omega), if_pos rfl, g_enc8 R.frame h1]
      dsimp only
      rw [g_enc1 R.p0 h2 (by omega)]
      dsimp only
      rw [g_enc1 R.p1 h4 (by omega)]
      dsimp only
      rw [← e]
    rw [hf]
    rw [if_pos (show (st (some ([] : List UInt8))).2 = 0 from rfl), if_pos ⟨rfl, hr⟩]
  · have ht : R.text = enc (Wr.leBytes 3 1) ++ (enc (Wr.leBytes R.seg 8) ++ (enc (Wr.leBytes R.first 8) ++ (enc (Wr.leBytes R.epoch 8) ++ (enc (Wr.leBytes R.player 1) ++ [])))) := by
      unfold Rec.text Rec.bytes
      rw [hk, if_neg (by omega), if_neg (by omega), enc_append, enc_append, enc_append, enc_append, List.append_nil, List.append_assoc, List.append_assoc]
    rw [ht, g_enc1 3 (by omega) (by omega)]
    dsimp only
    rw [if_pos (Or.inr (Or.inr rfl))]
    have hf : fieldsG { Rec.zero with kind := 3 } (some (enc (Wr.leBytes R.seg 8) ++ (enc (Wr.leBytes R.first 8) ++ (enc (Wr.leBytes R.epoch 8) ++ (enc (Wr.leBytes R.player 1) ++ []))))) = (R, some []) := by
      unfold fieldsG
      rw [if_neg (by show ¬ (3 : Int) = 1; omega), if_neg (by show ¬ (3 : Int) = 2; omega), g_enc8 R.seg h1]
      dsimp only
      rw [g_enc8 R.first h2]
      dsimp only
      rw [g_enc8 R.epoch h3]
      dsimp only
      rw [g_enc1 R.player h4 (by omega)]
      dsimp only
      rw [← e]
    rw [hf]
    rw [if_pos (show (st (some ([] : List UInt8))).2 = 0 from rfl), if_pos ⟨rfl, hr⟩]
theorem text_len {R : Rec} : R.text.length ≤ 26 := by
  unfold Rec.text Rec.bytes
  rw [enc_len, List.length_append, Wr.leBytes_len]
  split
  · simp [Wr.leBytes_len]
  · split <;> simp [Wr.leBytes_len]
theorem nil_owns (w : World) (base : Nat) : w.ownsRow base 5 1 (.slice none 0 0) ([] : List Int).length (nums .u8 []) := ⟨rfl, Or.inl ⟨rfl, rfl⟩⟩
/-- fields, over a writer, of a record that may be. -/
theorem out_fields (w : World) (base go : Nat) (v : Value) (xs : List Int) (hW : Wq.IsW w base go v xs) (hl : xs.length ≤ 100) (b : Nat) (R : Rec) (hR : R.may) (hb : w.heap[b]? = some (.cells R.cells 51 (0, 0))) (hbg : b ≠ go) (hbv : v.ownBlock ≠ some b) :
    Calls Tryd.prog 70 #[.pointer (some ⟨b, 0, none⟩), .iface 142 (.pointer (some ⟨go, 0, none⟩))] w fun e w' => e = .returned (.bool true) ∧ Wq.Wrote w w' base go v (xs ++ (if R.kind = 1 then Wr.leBytes R.frame 8 ++ Wr.leBytes R.own 1 else if R.kind = 2 then Wr.leBytes R.frame 8 ++ Wr.leBytes R.p0 1 ++ Wr.leBytes R.p1 1 else Wr.leBytes R.seg 8 ++ Wr.leBytes R.first 8 ++ Wr.leBytes R.epoch 8 ++ Wr.leBytes R.player 1)) := by
  rcases hR with ⟨hk, e, h1, h2, h3⟩ | ⟨hk, e, h1, ⟨h2, h3⟩, h4, h5⟩ | ⟨hk, e, h1, h2, h3, h4, h5⟩
  · rw [if_pos hk]
    have := out_fields1 w base go v xs hW hl b R hk hb hbg hbv ⟨h1.1, h1.2, h2, by omega⟩
    simpa only [List.append_assoc] using this
  · rw [if_neg (by omega), if_pos hk]
    have := out_fields2 w base go v xs hW hl b R hk hb hbg hbv ⟨h1.1, h1.2, h2, by omega, h4, by omega⟩
    simpa only [List.append_assoc] using this
  · rw [if_neg (by omega), if_neg (by omega)]
    have := out_fields3 w base go v xs hW hl b R hk hb hbg hbv ⟨h1.1, h1.2, h2.1, h2.2, h3.1, h3.2, h4, by omega⟩
    simpa only [List.append_assoc] using this
theorem isw_below {w w1 : World} {base go : Nat} {v : Value} {xs : List Int} (h : Wq.IsW w base go v xs) (hb : Below w.heap.size w w1) : Wq.IsW w1 base go v xs :=
  ⟨(hb.block go (blk_lt h.1)).trans h.1, pw_own_below h.2.1 hb, h.2.2⟩
set_option maxHeartbeats 1000000 in
set_option maxRecDepth 100000 in
theorem put_calls (R : Rec) (hR : R.may) (w : World) : Calls Tryd.prog 55 #[R.val] w fun e w' => e = .returned (.tuple #[.string (bs R.text), .int .i64 0]) ∧ Below w.heap.size w w' := by
  have hkr : 1 ≤ R.kind ∧ R.kind ≤ 3 := by rcases hR with h | h | h <;> omega
  have HT := Lib.hid (take_text hR)
  have HTL := Lib.hid (text_len (R := R))
  have HRt := Lib.hid (may_right hR)
  have HR := Lib.hid hR
  have hk0 : 0 ≤ R.kind := by omega
  have hk256 : R.kind < 256 := by omega
  clear hR
  unfold Rec.val
  rw [show R.cells = #[.int .i64 R.kind, .int .u64 R.frame, .int .u8 R.own, .int .u8 R.p0, .int .u8 R.p1, .int .u64 R.seg, .int .u64 R.first, .int .u64 R.epoch, .int .u8 R.player] from rfl]
  have HX := Lib.hid (show ∀ W3, W3 = ((w.alloc (.cells R.cells 51)).alloc (.cells #[.slice none 0 0] 144)).alloc (.cells #[.int .u8 R.kind] 5) →
      W3.heap[w.heap.size]? = some (.cells R.cells 51 (0, 0)) ∧ Wq.IsW W3 w.heap.size (w.heap.size + 1) (.slice none 0 0) [] ∧ W3.heap[w.heap.size + 1 + 1]? = some (.cells #[.int .u8 R.kind] 5 (0, 0)) ∧ Below w.heap.size w W3 ∧ W3.heap.size = w.heap.size + 3 by
    rintro W3 rfl
    refine ⟨blk_alloc (blk_alloc (heap_alloc_new w _) _) _, ⟨blk_alloc (blk_alloc2 w _ _) _, nil_owns _ _, by omega⟩, ?_, ((((Below.refl _ _).alloc (Nat.le_refl _) _).alloc (by simp) _).alloc (by simp; omega) _), by simp⟩
    have := heap_alloc_new ((w.alloc (.cells R.cells 51)).alloc (.cells #[.slice none 0 0] 144)) (.cells #[.int .u8 R.kind] 5)
    simpa using this)
  go_enter Tryd.func55, Tryd.ntmps55
  go_wp2_with fail
  rw [show #[Value.int .i64 R.kind, .int .u64 R.frame, .int .u8 R.own, .int .u8 R.p0, .int .u8 R.p1, .int .u64 R.seg, .int .u64 R.first, .int .u64 R.epoch, .int .u8 R.player] = R.cells from rfl]
  generalize hW3 : ((w.alloc (.cells R.cells 51)).alloc (.cells #[.slice none 0 0] 144)).alloc (.cells #[.int .u8 R.kind] 5) = W3
  obtain ⟨a1, a2, a3, a4, a5⟩ := HX.out W3 hW3.symm
  have HR3 := Lib.hid a1
  have HB3 := Lib.hid a4
  have hsz := a5
  clear HX hW3
  refine (out_byte W3 w.heap.size (w.heap.size + 1) (.slice none 0 0) [] a2 (by simp) (w.heap.size + 1 + 1) 0 R.kind ((blk_cell a3 0).trans rfl) hk0 hk256).mono ?_
  rintro e w4 ⟨rfl, hw4⟩
  have HR4 := Lib.hid (wrote_blk hw4 HR3.out (by omega) (by simp [Value.ownBlock]))
  have hk4 := wrote_blk hw4 a3 (by omega) (by simp [Value.ownBlock])
  obtain ⟨v4, b1, b2, b3, b4⟩ := hw4
  have HW4 := Lib.hid b1
  have HB4 := Lib.hid (HB3.out.trans b3)
  have HV4 := Lib.hid (show v4.ownBlock ≠ some w.heap.size by
    intro e
    rcases b4 with h | ⟨b', h, hb'⟩
    · rw [h] at e; simp [Value.ownBlock] at e
    · rw [h] at e; cases e; omega)
  have ck4 : w4.cell? ⟨w.heap.size + 1 + 1, 0, none⟩ = some (.int .u8 R.kind) := (blk_cell hk4 0).trans rfl
  have cr4 : w4.cell? ⟨w.heap.size, 0, none⟩ = some (.int .i64 R.kind) := (blk_cell HR4.out 0).trans rfl
  clear a1 a2 a3 a4 a5 b1 b2 b3 b4 hk4
  go_wp2_with fail
  refine (out_fields w4 w.heap.size (w.heap.size + 1) v4 ([] ++ Wr.leBytes R.kind 1) HW4.out (by rw [List.length_append, Wr.leBytes_len]; decide) w.heap.size R HR.out HR4.out (by omega) HV4.out).mono ?_
  rintro e w5 ⟨rfl, hw5⟩
  have HR5 := Lib.hid (wrote_blk hw5 HR4.out (by omega) HV4.out)
  obtain ⟨v5, b1, b2, b3, b4⟩ := hw5
  have HW5 := Lib.hid b1
  have HB5 := Lib.hid (HB4.out.trans b3)
  have HR0 := Lib.hid (right_calls w5 R)
  rw [HRt.out] at HR0
  clear b1 b2 b3 b4 ck4 cr4
  go_wp2_with (first | ((with_reducible refine gate_load (t := 51) (p := 1) rfl ?_); refine gate_guard (by rfl) ?_; refine load_rec rfl 51 (.tmp 1) rfl _ Tryd.underlying51 rfl info51 w.heap.size 51 R rfl HR5.out ?_))
  refine (HR0.out).mono ?_
  rintro e w6 ⟨rfl, hb6⟩
  have HR6 := Lib.hid (blk_kept HR5.out (Kept.of_below hb6 (fun _ => False)) (fun h => h))
  have hw6 : Wq.IsW w6 w.heap.size (w.heap.size + 1) v5 (([] ++ Wr.leBytes R.kind 1) ++ (if R.kind = 1 then Wr.leBytes R.frame 8 ++ Wr.leBytes R.own 1 else if R.kind = 2 then Wr.leBytes R.frame 8 ++ Wr.leBytes R.p0 1 ++ Wr.leBytes R.p1 1 else Wr.leBytes R.seg 8 ++ Wr.leBytes R.first 8 ++ Wr.leBytes R.epoch 8 ++ Wr.leBytes R.player 1)) := isw_below HW5.out hb6
  have HB6 := Lib.hid (HB5.out.trans (hb6.mono HB5.out.size))
  have HY := Lib.hid (Wq.wBytes w.heap.size (w.heap.size + 1) v5 _ w6 hw6 (by
    rw [List.length_append, List.length_append, Wr.leBytes_len]
    split
    · simp [Wr.leBytes_len]
    · split <;> simp [Wr.leBytes_len]))
  clear hb6 hw6
  go_wp2_with fail
  refine (HY.out).mono ?_
  rintro e w7 ⟨rfl, ⟨m, rfl⟩⟩
  rw [List.nil_append, show Wr.leBytes R.kind 1 ++ (if R.kind = 1 then Wr.leBytes R.frame 8 ++ Wr.leBytes R.own 1 else if R.kind = 2 then Wr.leBytes R.frame 8 ++ Wr.leBytes R.p0 1 ++ Wr.leBytes R.p1 1 else Wr.leBytes R.seg 8 ++ Wr.leBytes R.first 8 ++ Wr.leBytes R.epoch 8 ++ Wr.leBytes R.player 1) = R.bytes from rfl, str_bs, show bs (enc R.bytes) = bs R.text from rfl]
  have HR7 := Lib.hid (show (w6.drewN m).heap[w.heap.size]? = some (.cells R.cells 51 (0, 0)) from HR6.out)
  have HB7 := Lib.hid (pw_below_drewN HB6.out m)
  clear HY
  generalize w6.drewN m = w7 at *
  have HTk := Lib.hid (take_calls R.text (by have := HTL.out; omega) w7)
  rw [HT.out] at HTk
  generalize htx : bs R.text = tx at *
  have HTX := Lib.hid htx
  clear htx
  go_wp2_with fail
  refine (HTk.out).mono ?_
  rintro e w8 ⟨rfl, hb8⟩
  have HR8 := Lib.hid (blk_kept HR7.out (Kept.of_below hb8 (fun _ => False)) (fun h => h))
  have HB8 := Lib.hid (HB7.out.trans (hb8.mono HB7.out.size))
  clear hb8
  have hg51 := guard51 .neq (.tmp 44) (.tmp 45) R R
  have hn51 : ∀ w, (binOp .neq 51 R.val R.val).run Tryd.prog w = .ok (.bool false) w := fun w => by rw [neq51, decide_eq_true rfl]; rfl
  go_wp2_with (first | ((with_reducible refine gate_store (t := 51) (p := 7) rfl ?_); refine store_rec rfl 51 (.tmp 7) (.tmp 39) rfl info51 w8.heap.size 51 R Rec.zero rfl rfl (by exact heap_alloc_new w8 _) ?_; intro w9 hz9 hk9 hb9; have HZ9 := Lib.hid hz9; have HB9 := Lib.hid (hb9 w.heap.size w HB8.out.size (HB8.out.alloc HB8.out.size _)); have HR9 := Lib.hid (blk_kept (blk_alloc HR8.out (.cells Rec.zero.cells 51)) hk9 (by have := blk_lt HR8.out; omega)); clear hz9 hk9 hb9) | ((with_reducible refine gate_load (t := 51) (p := 7) rfl ?_); refine gate_guard (by rfl) ?_; refine load_rec rfl 51 (.tmp 7) rfl _ Tryd.underlying51 rfl info51 w8.heap.size 51 R rfl HZ9.out ?_) | ((with_reducible refine gate_load (t := 51) (p := 1) rfl ?_); refine gate_guard (by rfl) ?_; refine load_rec rfl 51 (.tmp 1) rfl _ Tryd.underlying51 rfl info51 w.heap.size 51 R rfl HR9.out ?_))
  go_ret2
  exact ⟨by rw [HTX.out]; rfl, HB9.out⟩
end Go.Proofs.YtnhjhaphfdlkfaaDoor.Sg
/- The scanner: its state; begin. -/
set_option linter.unusedVariables false
namespace Go.Proofs.YtnhjhaphfdlkfaaDoor.Sg
open Go.RowKit Go.Proofs.YtnhjhaphfdlkfaaDoor.HF Go.Proofs.YtnhjhaphfdlkfaaDoor.SB Go.Proofs.YtnhjhaphfdlkfaaDoorW.PrintWords Go.Proofs.YtnhjhaphfdlkfaaDoorW.PrintLast Go.Proofs.YtnhjhaphfdlkfaaDoorW.PrintMore
/-- What records say so far. -/
structure Sc where
  head : Rec
  l : List Rec
  begun : Bool
  count : Int
  owned : List Int
def scCells (n : Int) (x : Sc) (vl vo : Value) : Array Value :=
  #[.int .u64 n, .int .i64 x.head.kind, .int .u64 x.head.frame, .int .u8 x.head.own, .int .u8 x.head.p0, .int .u8 x.head.p1, .int .u64 x.head.seg, .int .u64 x.head.first, .int .u64 x.head.epoch, .int .u8 x.head.player, vl, .bool x.begun, .int .u64 x.count, vo]
def flatR : List Rec → List Value
  | [] => []
  | r :: l => r.cells.toList ++ flatR l
theorem flatR_len : ∀ l : List Rec, (flatR l).length = l.length * 9
  | [] => rfl
  | r :: l => by rw [flatR, List.length_append, flatR_len l, Array.length_toList, r.size, List.length_cons]; omega
theorem flatR_append : ∀ (l k : List Rec), flatR (l ++ k) = flatR l ++ flatR k
  | [], k => rfl
  | r :: l, k => by rw [List.cons_append, flatR, flatR, flatR_append l k, List.append_assoc]
theorem flatR_one (r : Rec) : flatR [r] = r.cells.toList := by rw [flatR, flatR, List.append_nil]
theorem flatR_at : ∀ (l : List Rec) (i : Nat) (h : i < l.length) (j : Nat), j < 9 → (flatR l)[i * 9 + j]? = (l[i]).cells[j]?
  | [], i, h, _, _ => by simp at h
  | r :: l, 0, h, j, hj => by
    rw [flatR, Nat.zero_mul, Nat.zero_add, List.getElem?_append_left (by rw [Array.length_toList, r.size]; exact hj), Array.getElem?_toList]; rfl
  | r :: l, i + 1, h, j, hj => by
    rw [flatR, List.getElem?_append_right (by rw [Array.length_toList, r.size]; omega), Array.length_toList, r.size, show (i + 1) * 9 + j - 9 = i * 9 + j by omega]
    exact flatR_at l i (by simpa using h) j hj
/-- A scanner at block g; its blocks are among F. -/
def IsSc (w : World) (base g : Nat) (n : Int) (x : Sc) (F : Nat → Prop) : Prop :=
  ∃ vl vo, w.heap[g]? = some (.cells (scCells n x vl vo) 102 (0, 0)) ∧ QRow w base 51 9 vl x.l.length (flatR x.l) ∧ QRow w base 47 1 vo x.owned.length (nums .u8 x.owned) ∧ F g ∧ (∀ k, vl.ownBlock = some k → F k) ∧ (∀ k, vo.ownBlock = some k → F k) ∧ (∀ k, F k → base ≤ k ∧ k < w.heap.size)
def DidSc (w w' : World) (base g : Nat) (n : Int) (x : Sc) (F : Nat → Prop) : Prop :=
  ∃ F', IsSc w' base g n x F' ∧ (∀ k, F' k → F k ∨ w.heap.size ≤ k) ∧ Kept w w' F ∧ Below base w w'
theorem sc_kept {w w1 : World} {base g : Nat} {n : Int} {x : Sc} {F S : Nat → Prop} (h : IsSc w base g n x F) (hk : Kept w w1 S) (hn : ∀ k, F k → ¬ S k) : IsSc w1 base g n x F := by
  obtain ⟨vl, vo, h1, h2, h3, h4, h5, h6, h7⟩ := h
  exact ⟨vl, vo, blk_kept h1 hk (hn g h4), q_move h2 (fun k e => hk.2 k (h7 k (h5 k e)).2 (hn k (h5 k e))), q_move h3 (fun k e => hk.2 k (h7 k (h6 k e)).2 (hn k (h6 k e))), h4, h5, h6, fun k hf => ⟨(h7 k hf).1, Nat.lt_of_lt_of_le (h7 k hf).2 hk.1⟩⟩
section
variable {P : Program} {ops : Array Oper} {rest : List Oper} {o : Oper} {a : Act} {Q : Exit → Act → World → Prop} {K : Act → World → Prop} {W : World}
def putSeg (cs : Array Value) (off : Nat) (vs : Array Value) : Array Value := (cs.toList.take off ++ vs.toList ++ cs.toList.drop (off + vs.size)).toArray
theorem seg_world (b off : Nat) (cs : Array Value) (T : TypeId) (vs : Array Value) (hb : W.heap[b]? = some (.cells cs T (0, 0))) (hfit : off + vs.size ≤ cs.size) :
    (W.setCells b off vs.toList).heap[b]? = some (.cells (putSeg cs off vs) T (0, 0)) ∧ Kept W (W.setCells b off vs.toList) (fun i => i = b) ∧ ∀ B w0, B ≤ b → Below B w0 W → Below B w0 (W.setCells b off vs.toList) := by
  obtain ⟨cur, h1, h2, h3⟩ := setCells_row (g := b) vs.toList off W cs hb (by rw [Array.length_toList]; exact hfit)
  obtain ⟨s1, s2, s3, s4⟩ := setCells_same b vs.toList off W
  have hcur : cur = putSeg cs off vs := by
    unfold putSeg
    apply Array.toList_inj.1
    rw [h3, Array.length_toList, List.toList_toArray]
  rw [hcur] at h1
  exact ⟨h1, ⟨by rw [s4]; exact Nat.le_refl _, fun i _ hn => setCells_far _ _ i hn⟩, fun B w0 hB hw => ⟨s1.trans hw.os, s2.trans hw.tape, s3.trans hw.output, by rw [s4]; exact hw.size, fun i hi => (setCells_far _ _ i (by omega)).trans (hw.block i hi)⟩⟩
/-- A record is stored into a block: as a step of a region that draws. -/
theorem step_store_seg (hw : Region.wanted o (yielded ops a.tmps) = true) (ty : TypeId) (x y : Operand) (ho : o.op = .store ty x y) (hi : (P.info? ty).map (·.size) = some 9) (b off : Nat) (cs : Array Value) (T : TypeId) (R : Rec) (hx : a.eval x = .pointer (some ⟨b, off, none⟩)) (hy : a.eval y = R.val)
    (hb : W.heap[b]? = some (.cells cs T (0, 0))) (hfit : off + 9 ≤ cs.size)
    (h : ∀ w', w'.heap[b]? = some (.cells (putSeg cs off R.cells) T (0, 0)) → Kept W w' (fun i => i = b) → (∀ B w0, B ≤ b → Below B w0 W → Below B w0 w') → K (a.put o.dst undef) w') :
    if Region.wanted o (yielded ops a.tmps) = true then Oper.wp P o a W K Q else K (a.put o.dst undef) W := by
  rw [if_pos hw]
  obtain ⟨h1, h2, h3⟩ := seg_world b off cs T R.cells hb hfit
  refine wp_store_mid ty x y ho b off R.cells hx hy (fun j hj => ⟨?_, blk_frozen hb _⟩) hi R.ones (h _ h1 h2 h3)
  have hj' : j < 9 := hj
  rw [blk_cell hb (off + j), Array.getElem?_eq_getElem (by omega)]
  rfl
end
/-- The fields are stored anew, but for the two slices. -/
theorem sc_set {w w' : World} {base g : Nat} {n : Int} {x x' : Sc} {F : Nat → Prop} {vl vo : Value} (h2 : QRow w base 51 9 vl x.l.length (flatR x.l)) (h3 : QRow w base 47 1 vo x.owned.length (nums .u8 x.owned)) (h4 : F g) (h5 : ∀ k, vl.ownBlock = some k → F k) (h6 : ∀ k, vo.ownBlock = some k → F k) (h7 : ∀ k, F k → base ≤ k ∧ k < w.heap.size)
    (hg : ∃ cs, w.heap[g]? = some (.cells cs 102 (0, 0))) (hb : w'.heap[g]? = some (.cells (scCells n x' vl vo) 102 (0, 0))) (hk : Kept w w' (fun i => i = g)) (hB : Below base w w') (hl : x'.l = x.l) (ho : x'.owned = x.owned) : DidSc w w' base g n x' F := by
  obtain ⟨cs, hcs⟩ := hg
  have hvl : ∀ k, vl.ownBlock = some k → k ≠ g := fun k e hkg => by
    subst hkg
    obtain ⟨_, cells, hc⟩ := q_typed h2 k e
    rw [hcs] at hc; simp at hc
  have hvo : ∀ k, vo.ownBlock = some k → k ≠ g := fun k e hkg => by
    subst hkg
    obtain ⟨_, cells, hc⟩ := q_typed h3 k e
    rw [hcs] at hc; simp at hc
  refine ⟨F, ⟨vl, vo, hb, ?_, ?_, h4, h5, h6, fun k hf => ⟨(h7 k hf).1, Nat.lt_of_lt_of_le (h7 k hf).2 hk.1⟩⟩, fun k hf => Or.inl hf, hk.mono (fun k e => e ▸ h4), hB⟩
  · rw [hl]
    exact q_move h2 (fun k e => hk.2 k (h7 k (h5 k e)).2 (hvl k e))
  · rw [ho]
    exact q_move h3 (fun k e => hk.2 k (h7 k (h6 k e)).2 (hvo k e))
theorem begin_cells (n : Int) (x : Sc) (vl vo : Value) (r : Rec) : ((((((((((((scCells n x vl vo).setIfInBounds 1 (.int .i64 r.kind)).setIfInBounds 2 (.int .u64 r.frame)).setIfInBounds 3 (.int .u8 r.own)).setIfInBounds 4 (.int .u8 r.p0)).setIfInBounds 5 (.int .u8 r.p1)).setIfInBounds 6 (.int .u64 r.seg)).setIfInBounds 7 (.int .u64 r.first)).setIfInBounds 8 (.int .u64 r.epoch)).setIfInBounds 9 (.int .u8 r.player)).setIfInBounds 11 (.bool true)).setIfInBounds 12 (.int .u64 r.first)) = scCells n { x with head := r, begun := true, count := r.first } vl vo := by
  apply Array.toList_inj.1
  simp [scCells]
theorem begin_world (W : World) (g : Nat) (n : Int) (x : Sc) (vl vo : Value) (r : Rec) (hb : W.heap[g]? = some (.cells (scCells n x vl vo) 102 (0, 0))) :
    (((((((((((W.setCell ⟨g, 1, none⟩ (.int .i64 r.kind)).setCell ⟨g, 2, none⟩ (.int .u64 r.frame)).setCell ⟨g, 3, none⟩ (.int .u8 r.own)).setCell ⟨g, 4, none⟩ (.int .u8 r.p0)).setCell ⟨g, 5, none⟩ (.int .u8 r.p1)).setCell ⟨g, 6, none⟩ (.int .u64 r.seg)).setCell ⟨g, 7, none⟩ (.int .u64 r.first)).setCell ⟨g, 8, none⟩ (.int .u64 r.epoch)).setCell ⟨g, 9, none⟩ (.int .u8 r.player)).setCell ⟨g, 11, none⟩ (.bool true)).setCell ⟨g, 12, none⟩ (.int .u64 r.first)).heap[g]? = some (.cells (scCells n { x with head := r, begun := true, count := r.first } vl vo) 102 (0, 0)) := by
  rw [← begin_cells]
  exact (blk_set (blk_set (blk_set (blk_set (blk_set (blk_set (blk_set (blk_set (blk_set (blk_set (blk_set hb 1 _) 2 _) 3 _) 4 _) 5 _) 6 _) 7 _) 8 _) 9 _) 11 _) 12 _)
/-- begin. -/
def beginS (n : Int) (x : Sc) (r : Rec) : Sc × Int := if x.begun = true ∨ r.seg ≠ n then (x, 11) else ({ x with head := r, begun := true, count := r.first }, 0)
set_option maxHeartbeats 2000000 in
set_option maxRecDepth 100000 in
theorem begin_calls (w : World) (base g : Nat) (n : Int) (x : Sc) (F : Nat → Prop) (h : IsSc w base g n x F) (hbw : base ≤ w.heap.size) (r : Rec) :
    Calls Tryd.prog 73 #[.pointer (some ⟨g, 0, none⟩), r.val] w fun e w' => e = .returned (.int .i64 (beginS n x r).2) ∧ DidSc w w' base g n (beginS n x r).1 F := by
  obtain ⟨vl, vo, h1, h2, h3, h4, h5, h6, h7⟩ := h
  have hg := h7 g h4
  have c0 : w.cell? ⟨g, 0, none⟩ = some (.int .u64 n) := blk_cell h1 0
  have c1 : w.cell? ⟨g, 1, none⟩ = some (.int .i64 x.head.kind) := blk_cell h1 1
  have c2 : w.cell? ⟨g, 2, none⟩ = some (.int .u64 x.head.frame) := blk_cell h1 2
  have c3 : w.cell? ⟨g, 3, none⟩ = some (.int .u8 x.head.own) := blk_cell h1 3
  have c4 : w.cell? ⟨g, 4, none⟩ = some (.int .u8 x.head.p0) := blk_cell h1 4
  have c5 : w.cell? ⟨g, 5, none⟩ = some (.int .u8 x.head.p1) := blk_cell h1 5
  have c6 : w.cell? ⟨g, 6, none⟩ = some (.int .u64 x.head.seg) := blk_cell h1 6
  have c7 : w.cell? ⟨g, 7, none⟩ = some (.int .u64 x.head.first) := blk_cell h1 7
  have c8 : w.cell? ⟨g, 8, none⟩ = some (.int .u64 x.head.epoch) := blk_cell h1 8
  have c9 : w.cell? ⟨g, 9, none⟩ = some (.int .u8 x.head.player) := blk_cell h1 9
  have z1 : w.frozen? ⟨g, 1, none⟩ = false := blk_frozen h1 1
  have z2 : w.frozen? ⟨g, 2, none⟩ = false := blk_frozen h1 2
  have z3 : w.frozen? ⟨g, 3, none⟩ = false := blk_frozen h1 3
  have z4 : w.frozen? ⟨g, 4, none⟩ = false := blk_frozen h1 4
  have z5 : w.frozen? ⟨g, 5, none⟩ = false := blk_frozen h1 5
  have z6 : w.frozen? ⟨g, 6, none⟩ = false := blk_frozen h1 6
  have z7 : w.frozen? ⟨g, 7, none⟩ = false := blk_frozen h1 7
  have z8 : w.frozen? ⟨g, 8, none⟩ = false := blk_frozen h1 8
  have z9 : w.frozen? ⟨g, 9, none⟩ = false := blk_frozen h1 9
  have z11 : w.frozen? ⟨g, 11, none⟩ = false := blk_frozen h1 11
  have z12 : w.frozen? ⟨g, 12, none⟩ = false := blk_frozen h1 12
  have c11 : w.cell? ⟨g, 11, none⟩ = some (.bool x.begun) := blk_cell h1 11
  have c12 : w.cell? ⟨g, 12, none⟩ = some (.int .u64 x.count) := blk_cell h1 12
  have hne : g ≠ w.heap.size := by omega
  have hlt := hg.2
  have HB1 := Lib.hid h1
  have H2 := Lib.hid h2
  have H3 := Lib.hid h3
  clear h1 h2 h3
  unfold Rec.val Rec.cells
  cases hbeg : x.begun
  · rw [hbeg] at c11
    by_cases hs : r.seg = n
    · have hsb : (r.seg != n) = false := by simp [hs]
      have HBS := Lib.hid (show beginS n x r = ({ x with head := r, begun := true, count := r.first }, 0) from if_neg (by rw [hbeg]; simp [hs]))
      clear hs
      go_enter Tryd.func73, Tryd.ntmps73
      go_wp2_with fail
      go_quiet (fail)
      go_wp2_with fail
      go_region
      all_goals
        go_wp2
        go_ret
        rw [HBS.out]
        refine ⟨rfl, ?_⟩
        refine sc_set H2.out H3.out h4 h5 h6 h7 ⟨_, HB1.out⟩ ?_ ?_ ?_ rfl rfl
        · exact begin_world _ g n x vl vo r (show ((w.alloc (.cells r.cells 51)).drewN (nq + 1)).heap[g]? = _ from blk_alloc HB1.out _)
        · repeat (refine Kept.setCell (S := fun i => i = g) ?_ (Or.inl rfl) _)
          exact ((Kept.refl w _).alloc _).drewN _
        · repeat (refine Below.setCell ?_ hg.1 _)
          exact pw_below_drewN ((Below.refl base w).alloc hbw _) _
    · have hsb : (r.seg != n) = true := by simp [hs]
      have HS := Lib.hid (show beginS n x r = (x, 11) from if_pos (Or.inr hs))
      clear hs
      go_enter Tryd.func73, Tryd.ntmps73
      go_wp2_with fail
      go_quiet (fail)
      go_wp2
      go_ret
      rw [HS.out]
      exact ⟨rfl, sc_set H2.out H3.out h4 h5 h6 h7 ⟨_, HB1.out⟩ (blk_alloc HB1.out _) (((Kept.refl w _).alloc _).drewN _) (pw_below_drewN ((Below.refl base w).alloc hbw _) _) rfl rfl⟩
  · rw [hbeg] at c11
    have HS := Lib.hid (show beginS n x r = (x, 11) from if_pos (Or.inl hbeg))
    clear hbeg
    go_enter Tryd.func73, Tryd.ntmps73
    go_wp2_with fail
    go_quiet (fail)
    go_wp2
    go_ret
    rw [HS.out]
    exact ⟨rfl, sc_set H2.out H3.out h4 h5 h6 h7 ⟨_, HB1.out⟩ (blk_alloc HB1.out _) (((Kept.refl w _).alloc _).drewN _) (pw_below_drewN ((Below.refl base w).alloc hbw _) _) rfl rfl⟩
end Go.Proofs.YtnhjhaphfdlkfaaDoor.Sg
/- The scanner's own. -/
set_option linter.unusedVariables false
set_option linter.unusedSimpArgs false
namespace Go.Proofs.YtnhjhaphfdlkfaaDoor.Sg
open Go.RowKit Go.Proofs.YtnhjhaphfdlkfaaDoor.HF Go.Proofs.YtnhjhaphfdlkfaaDoor.SB Go.Proofs.YtnhjhaphfdlkfaaDoorW.PrintWords Go.Proofs.YtnhjhaphfdlkfaaDoorW.PrintLast Go.Proofs.YtnhjhaphfdlkfaaDoorW.PrintMore
theorem q_alloc {w : World} {base n size : Nat} {e : TypeId} {v : Value} {xs : List Value} (h : QRow w base e size v n xs) (ob : Obj) : QRow (w.alloc ob) base e size v n xs := q_move h (fun k hk => Below.heap_alloc w ob k (q_lt h k hk))
theorem q_other {w w1 : World} {base n size n' size' : Nat} {e e' : TypeId} {v v' : Value} {xs xs' : List Value} (h : QRow w base e size v n xs) (h' : QRow w base e' size' v' n' xs') (hne : e ≠ e') (hg : w.grownBy w1 v'.ownBlock) : QRow w1 base e size v n xs :=
  q_move h (fun k hk => hg.block k (q_lt h k hk) (fun e2 => by
    obtain ⟨_, c1, h1⟩ := q_typed h k hk
    obtain ⟨_, c2, h2⟩ := q_typed h' k e2.symm
    rw [h1] at h2
    simp at h2
    exact hne h2.2))
section
variable {P : Program} {ops : Array Oper} {o : Oper} {a : Act} {Q : Exit → Act → World → Prop} {K : Act → World → Prop} {W : World}
/-- append onto a row that may begin inside its block, as a step of a region that draws. -/
theorem q_app_step (base : Nat) (hw : Region.wanted o (yielded ops a.tmps) = true) (s x : Operand) (t e : TypeId) (z : Value) (size bytes : Nat)
    (ho : o.op = .call { callee := .builtin .append, args := #[s, x], argTypes := #[t, t] })
    (ht : P.underlying t = some (.slice e)) (hinfo : (P.info? e).map (fun i => (i.zero, i.size, i.bytes)) = some (some z, size, bytes)) (hz : z.cells.size = size) (hs0 : 0 < size) (hb0 : 0 < bytes)
    (v : Value) (n : Nat) (xs : List Value) (A : Addr) (m c : Nat) (news : List Value) (hs : a.eval s = v) (hx : a.eval x = .slice (some A) m c) (hm : 0 < m) (hys : news.length = m * size) (hnews : ∀ j u, news[j]? = some u → W.cell? (A.add j) = some u) (h1 : ∀ u ∈ news, u.oneCell' = true)
    (HO : QRow W base e size v n xs) (hbase : base ≤ W.heap.size) (hl : (n + m) * bytes ≤ 140737488355328)
    (h : ∀ v1 w1, QRow w1 base e size v1 (n + m) (xs ++ news) → W.grownBy w1 v.ownBlock → (v1.ownBlock = v.ownBlock ∨ ∃ b, v1.ownBlock = some b ∧ W.heap.size ≤ b) → K (a.put o.dst v1) w1) :
    if Region.wanted o (yielded ops a.tmps) = true then Oper.wp P o a W K Q else K (a.put o.dst undef) W := by
  obtain ⟨i0, hi, hzz⟩ := Option.map_eq_some_iff.1 hinfo
  simp only [Prod.mk.injEq] at hzz
  obtain ⟨hz0, hz1, hz2⟩ := hzz
  have hlen : n + m ≤ 140737488355328 := Nat.le_trans (Nat.le_mul_of_pos_right _ hb0) hl
  rw [if_pos hw]
  obtain ⟨v1, w1, hr, hown, hg, hat⟩ := q_append (P := P) W base t o.type e i0 z size bytes ht hi hz0 hz1 hz2 hz hs0 v n xs HO A m c news hys hnews h1 hm (by simp only [maxLen]; omega) hl hbase
  unfold Oper.wp execOp
  simp only [ho, resolve, invoke, builtin, Sem.run_bind, Sem.run_pure, Result.andThen_ok, List.map_toArray, List.map_cons, List.map_nil, hs, hx, hr]
  exact h v1 w1 hown hg hat
end
/-- Between the steps of a region that appends to both slices: what lies where. rb: the box of the record that came in, the first block that is new. -/
structure Mid (w : World) (base g : Nat) (n : Int) (x : Sc) (r : Rec) (vl vo : Value) (F : Nat → Prop) (w' : World) (L : List Rec) (O : List Int) (vl' vo' : Value) : Prop where
  hg : w'.heap[g]? = some (.cells (scCells n x vl vo) 102 (0, 0))
  hr : w'.heap[w.heap.size]? = some (.cells r.cells 51 (0, 0))
  ql : QRow w' base 51 9 vl' L.length (flatR L)
  qo : QRow w' base 47 1 vo' O.length (nums .u8 O)
  kept : Kept w w' F
  below : Below base w w'
  al : ∀ k, vl'.ownBlock = some k → F k ∧ k < w.heap.size ∨ w.heap.size < k
  ao : ∀ k, vo'.ownBlock = some k → F k ∧ k < w.heap.size ∨ w.heap.size < k
theorem mid_base {w w' : World} {base g : Nat} {n : Int} {x : Sc} {r : Rec} {vl vo vl' vo' : Value} {F : Nat → Prop} {L : List Rec} {O : List Int} (h : Mid w base g n x r vl vo F w' L O vl' vo') (hb : base ≤ w.heap.size) : base ≤ w'.heap.size := Nat.le_trans hb h.kept.1
theorem mid_lt {w w' : World} {base g : Nat} {n : Int} {x : Sc} {r : Rec} {vl vo vl' vo' : Value} {F : Nat → Prop} {L : List Rec} {O : List Int} (h : Mid w base g n x r vl vo F w' L O vl' vo') : w.heap.size < w'.heap.size := blk_lt h.hr
theorem mid_alloc {w w' : World} {base g : Nat} {n : Int} {x : Sc} {r : Rec} {vl vo vl' vo' : Value} {F : Nat → Prop} {L : List Rec} {O : List Int} (h : Mid w base g n x r vl vo F w' L O vl' vo') (hb : base ≤ w.heap.size) (ob : Obj) : Mid w base g n x r vl vo F (w'.alloc ob) L O vl' vo' :=
  ⟨blk_alloc h.hg ob, blk_alloc h.hr ob, q_alloc h.ql ob, q_alloc h.qo ob, h.kept.alloc ob, h.below.alloc (mid_base h hb) ob, h.al, h.ao⟩
/-- A block that is new and no row's is as it was, whichever slice is appended to. -/
theorem mid_far {w w' w2 : World} {base g : Nat} {n : Int} {x : Sc} {r : Rec} {vl vo vl' vo' : Value} {F : Nat → Prop} {L : List Rec} {O : List Int} (h : Mid w base g n x r vl vo F w' L O vl' vo') {v : Value} (hv : ∀ k, v.ownBlock = some k → F k ∧ k < w.heap.size) (hg : w'.grownBy w2 v.ownBlock) {k : Nat} {o : Obj} (hk : w.heap.size ≤ k) (hb : w'.heap[k]? = some o) : w2.heap[k]? = some o :=
  (hg.block k (blk_lt hb) (fun e => by have := (hv k e.symm).2; omega)).trans hb
theorem mid_appO {w w' w2 : World} {base g : Nat} {n : Int} {x : Sc} {r : Rec} {vl vo vl' vo' : Value} {F : Nat → Prop} {L : List Rec} {O : List Int} (h : Mid w base g n x r vl vo F w' L O vl' vo') (hv : ∀ k, vo'.ownBlock = some k → F k ∧ k < w.heap.size) (hbw : base ≤ w.heap.size) (u : Int) {v2 : Value}
    (hq : QRow w2 base 47 1 v2 (O.length + 1) (nums .u8 O ++ [.int .u8 u])) (hg : w'.grownBy w2 vo'.ownBlock) (hat : v2.ownBlock = vo'.ownBlock ∨ ∃ b, v2.ownBlock = some b ∧ w'.heap.size ≤ b) : Mid w base g n x r vl vo F w2 L (O ++ [u]) vl' v2 := by
  have hlt := mid_lt h
  refine ⟨?_, mid_far h hv hg (Nat.le_refl _) h.hr, q_other h.ql h.qo (by decide) hg, ?_, Kept.of_grown hg h.kept (fun k hk => Or.inl (hv k hk).1), h.below.grown hg (mid_base h hbw) (fun k hk => (q_typed h.qo k hk).1), h.al, fun k hk => ?_⟩
  · refine (hg.block g (blk_lt h.hg) (fun e => ?_)).trans h.hg
    obtain ⟨_, c, hc⟩ := q_typed h.qo g e.symm
    have := h.hg
    rw [hc] at this; simp at this
  · rw [List.length_append, show nums .u8 (O ++ [u]) = nums .u8 O ++ [.int .u8 u] by simp [nums]]; exact hq
  · rcases hat with e | ⟨b, e, hb⟩
    · exact h.ao k (e ▸ hk)
    · rw [e] at hk; cases hk; exact Or.inr (by omega)
theorem mid_appL {w w' w2 : World} {base g : Nat} {n : Int} {x : Sc} {r : Rec} {vl vo vl' vo' : Value} {F : Nat → Prop} {L : List Rec} {O : List Int} (h : Mid w base g n x r vl vo F w' L O vl' vo') (hv : ∀ k, vl'.ownBlock = some k → F k ∧ k < w.heap.size) (hbw : base ≤ w.heap.size) (q : Rec) {v2 : Value}
    (hq : QRow w2 base 51 9 v2 (L.length + 1) (flatR L ++ q.cells.toList)) (hg : w'.grownBy w2 vl'.ownBlock) (hat : v2.ownBlock = vl'.ownBlock ∨ ∃ b, v2.ownBlock = some b ∧ w'.heap.size ≤ b) : Mid w base g n x r vl vo F w2 (L ++ [q]) O v2 vo' := by
  have hlt := mid_lt h
  refine ⟨?_, mid_far h hv hg (Nat.le_refl _) h.hr, ?_, q_other h.qo h.ql (by decide) hg, Kept.of_grown hg h.kept (fun k hk => Or.inl (hv k hk).1), h.below.grown hg (mid_base h hbw) (fun k hk => (q_typed h.ql k hk).1), fun k hk => ?_, h.ao⟩
  · refine (hg.block g (blk_lt h.hg) (fun e => ?_)).trans h.hg
    obtain ⟨_, c, hc⟩ := q_typed h.ql g e.symm
    have := h.hg
    rw [hc] at this; simp at this
  · rw [List.length_append, flatR_append, flatR_one]; exact hq
  · rcases hat with e | ⟨b, e, hb⟩
    · exact h.al k (e ▸ hk)
    · rw [e] at hk; cases hk; exact Or.inr (by omega)
theorem news_blk {W : World} {A : Nat} {cs : Array Value} {T : TypeId} (hb : W.heap[A]? = some (.cells cs T (0, 0))) : ∀ j u, cs.toList[j]? = some u → W.cell? ((⟨A, 0, none⟩ : Addr).add j) = some u := by
  intro j u hu
  rw [add_at, Nat.zero_add, blk_cell hb j, ← Array.getElem?_toList]; exact hu
/-- Both slices are stored: the scanner behind it. -/
theorem mid_end {w w' : World} {base g : Nat} {n : Int} {x x' : Sc} {r : Rec} {vl vo vl' vo' : Value} {F : Nat → Prop} {L : List Rec} {O : List Int} (h : Mid w base g n x r vl vo F w' L O vl' vo') (h4 : F g) (h7 : ∀ k, F k → base ≤ k ∧ k < w.heap.size) (hbw : base ≤ w.heap.size) {w2 : World} (hb : w2.heap[g]? = some (.cells (scCells n x' vl' vo') 102 (0, 0))) (hk : Kept w' w2 (fun i => i = g)) (hB : Below base w' w2) (hl : x'.l = L) (ho : x'.owned = O) : DidSc w w2 base g n x' F := by
  have hgl := (h7 g h4).2
  have hvl : ∀ k, vl'.ownBlock = some k → k ≠ g := fun k e hkg => by
    subst hkg
    obtain ⟨_, c, hc⟩ := q_typed h.ql _ e
    have := h.hg
    rw [hc] at this; simp at this
  have hvo : ∀ k, vo'.ownBlock = some k → k ≠ g := fun k e hkg => by
    subst hkg
    obtain ⟨_, c, hc⟩ := q_typed h.qo _ e
    have := h.hg
    rw [hc] at this; simp at this
  have ql2 : QRow w2 base 51 9 vl' L.length (flatR L) := q_move h.ql (fun k e => hk.2 k (q_lt h.ql k e) (hvl k e))
  have qo2 : QRow w2 base 47 1 vo' O.length (nums .u8 O) := q_move h.qo (fun k e => hk.2 k (q_lt h.qo k e) (hvo k e))
  refine ⟨fun k => F k ∨ vl'.ownBlock = some k ∨ vo'.ownBlock = some k, ⟨vl', vo', hb, by rw [hl]; exact ql2, by rw [ho]; exact qo2, Or.inl h4, fun k e => Or.inr (Or.inl e), fun k e => Or.inr (Or.inr e), ?_⟩, ?_, h.kept.then_ hk (fun k e => Or.inl (e ▸ h4)), h.below.trans hB⟩
  · intro k hf
    rcases hf with hf | hf | hf
    · exact ⟨(h7 k hf).1, Nat.lt_of_lt_of_le (h7 k hf).2 (Nat.le_trans h.kept.1 hk.1)⟩
    · exact ⟨(q_typed ql2 k hf).1, q_lt ql2 k hf⟩
    · exact ⟨(q_typed qo2 k hf).1, q_lt qo2 k hf⟩
  · intro k hf
    rcases hf with hf | hf | hf
    · exact Or.inl hf
    · rcases h.al k hf with h | h
      · exact Or.inl h.1
      · exact Or.inr (by omega)
    · rcases h.ao k hf with h | h
      · exact Or.inl h.1
      · exact Or.inr (by omega)
theorem info47 : (Tryd.prog.info? 47).map (fun i => (i.zero, i.size, i.bytes)) = some (some (.int .u8 0), 1, 1) := by kernel_rfl
theorem info51b : (Tryd.prog.info? 51).map (fun i => (i.zero, i.size, i.bytes)) = some (some Rec.zero.val, 9, 56) := by kernel_rfl
def ownS (x : Sc) (r : Rec) : Sc × Int := if x.begun = true ∧ x.owned.length < 12 ∧ r.frame ≠ 18446744073709551615 ∧ r.frame = x.count + x.owned.length then ({ x with owned := x.owned ++ [r.own], l := x.l ++ [r] }, 0) else (x, 11)
set_option maxHeartbeats 4000000 in
set_option maxRecDepth 100000 in
theorem own_calls (w : World) (base g : Nat) (n : Int) (x : Sc) (F : Nat → Prop) (h : IsSc w base g n x F) (hbw : base ≤ w.heap.size) (r : Rec) (hr : 0 ≤ r.frame ∧ r.frame < 18446744073709551616) (hc : 0 ≤ x.count ∧ x.count < 18446744073709551616) (hll : x.l.length ≤ 100000) :
    Calls Tryd.prog 72 #[.pointer (some ⟨g, 0, none⟩), r.val] w fun e w' => e = .returned (.int .i64 (ownS x r).2) ∧ DidSc w w' base g n (ownS x r).1 F := by
  obtain ⟨vl, vo, h1, h2, h3, h4, h5, h6, h7⟩ := h
  have hg := h7 g h4
  have c4 : w.cell? ⟨g, 12, none⟩ = some (.int .u64 x.count) := blk_cell h1 12
  have c11 : w.cell? ⟨g, 11, none⟩ = some (.bool x.begun) := blk_cell h1 11
  obtain ⟨Ao, co, rfl, hoc⟩ := q_slice h3
  obtain ⟨Al, cl, rfl, hlc⟩ := q_slice h2
  have c13 : w.cell? ⟨g, 13, none⟩ = some (.slice Ao x.owned.length co) := blk_cell h1 13
  have c10 : w.cell? ⟨g, 10, none⟩ = some (.slice Al x.l.length cl) := blk_cell h1 10
  have hne : g ≠ w.heap.size := by omega
  have hlt := hg.2
  have HB1 := Lib.hid h1
  have H2 := Lib.hid h2
  have H3 := Lib.hid h3
  clear h1 h2 h3
  have HDid := Lib.hid (fun m => sc_set (w := w) (w' := (w.alloc (.cells r.cells 51)).drewN m) (n := n) (x := x) (x' := x) H2.out H3.out h4 h5 h6 h7 ⟨_, HB1.out⟩ (blk_alloc HB1.out _) (((Kept.refl w _).alloc _).drewN _) (pw_below_drewN ((Below.refl base w).alloc hbw _) _) rfl rfl)
  unfold Rec.val Rec.cells
  cases hbeg : x.begun
  · rw [hbeg] at c11
    have HS := Lib.hid (show ownS x r = (x, 11) from if_neg (by rw [hbeg]; simp))
    clear hbeg
    go_enter Tryd.func72, Tryd.ntmps72
    go_wp2_with fail
    go_quiet (fail)
    go_wp2
    go_ret
    rw [HS.out]
    exact ⟨rfl, HDid.out _⟩
  · rw [hbeg] at c11
    by_cases h12 : x.owned.length < 12
    · have d12 : decide (12 ≤ (x.owned.length : Int)) = false := decide_eq_false (by omega)
      by_cases hmx : r.frame = 18446744073709551615
      · have dmx : (r.frame == 18446744073709551615) = true := by rw [hmx]; rfl
        have HS := Lib.hid (show ownS x r = (x, 11) from if_neg (fun h => h.2.2.1 hmx))
        clear hbeg hmx
        go_enter Tryd.func72, Tryd.ntmps72
        go_wp2_with fail
        go_quiet (fail)
        go_wp2
        go_ret
        rw [HS.out]
        exact ⟨rfl, HDid.out _⟩
      · have dmx : (r.frame == 18446744073709551615) = false := beq_eq_false_iff_ne.2 hmx
        by_cases hfl : r.frame < x.count
        · have dfl : decide (r.frame < x.count) = true := decide_eq_true hfl
          have HS := Lib.hid (show ownS x r = (x, 11) from if_neg (fun h => by have := h.2.2.2; omega))
          clear hbeg hmx hfl
          go_enter Tryd.func72, Tryd.ntmps72
          go_wp2_with fail
          go_quiet (fail)
          go_wp2
          go_ret
          rw [HS.out]
          exact ⟨rfl, HDid.out _⟩
        · have dfl : decide (r.frame < x.count) = false := decide_eq_false hfl
          have hsub : IntKind.u64.wrap (r.frame - x.count) = r.frame - x.count := IntWalk.u64_in _ ⟨by omega, by omega⟩
          have hlw : IntKind.u64.wrap (x.owned.length : Int) = (x.owned.length : Int) := IntWalk.u64_in _ ⟨by omega, by omega⟩
          by_cases hfe : r.frame = x.count + x.owned.length
          · have dfe : (r.frame - x.count != (x.owned.length : Int)) = false := by simp; omega
            have HS := Lib.hid (show ownS x r = ({ x with owned := x.owned ++ [r.own], l := x.l ++ [r] }, 0) from if_pos ⟨hbeg, h12, hmx, hfe⟩)
            clear hbeg hmx hfe hfl
            go_enter Tryd.func72, Tryd.ntmps72
            go_wp2_with fail
            go_quiet (fail)
            go_wp2_with fail
            have hvl : ∀ k, (Value.slice Al x.l.length cl).ownBlock = some k → F k ∧ k < w.heap.size := fun k e => ⟨h5 k e, (h7 k (h5 k e)).2⟩
            have hvo : ∀ k, (Value.slice Ao x.owned.length co).ownBlock = some k → F k ∧ k < w.heap.size := fun k e => ⟨h6 k e, (h7 k (h6 k e)).2⟩
            have HM1 := Lib.hid (show Mid w base g n x r (.slice Al x.l.length cl) (.slice Ao x.owned.length co) F ((w.alloc (.cells #[.int .i64 r.kind, .int .u64 r.frame, .int .u8 r.own, .int .u8 r.p0, .int .u8 r.p1, .int .u64 r.seg, .int .u64 r.first, .int .u64 r.epoch, .int .u8 r.player] 51)).drewN nq) x.l x.owned (.slice Al x.l.length cl) (.slice Ao x.owned.length co) from
              ⟨blk_alloc HB1.out _, heap_alloc_new w _, q_alloc H2.out _, q_alloc H3.out _, ((Kept.refl w _).alloc _).drewN _, pw_below_drewN ((Below.refl base w).alloc hbw _) _, fun k e => Or.inl (hvl k e), fun k e => Or.inl (hvo k e)⟩)
            clear c4 c11 c13 c10 d12 dmx dfl hsub hlw dfe
            generalize (w.alloc (.cells #[.int .i64 r.kind, .int .u64 r.frame, .int .u8 r.own, .int .u8 r.p0, .int .u8 r.p1, .int .u64 r.seg, .int .u64 r.first, .int .u64 r.epoch, .int .u8 r.player] 51)).drewN nq = w1 at HM1 ⊢
            have HMd := Lib.hid (show Mid w base g n x r (.slice Al x.l.length cl) (.slice Ao x.owned.length co) F w1.drew x.l x.owned (.slice Al x.l.length cl) (.slice Ao x.owned.length co) from ⟨HM1.out.hg, HM1.out.hr, HM1.out.ql, HM1.out.qo, HM1.out.kept, ⟨HM1.out.below.os, HM1.out.below.tape, HM1.out.below.output, HM1.out.below.size, HM1.out.below.block⟩, HM1.out.al, HM1.out.ao⟩)
            refine start_ (n := 23) (S := (fun w' => w'.cell? ⟨g, 13, none⟩ = some (.slice Ao x.owned.length co) ∧ w'.cell? ⟨g, 10, none⟩ = some (.slice Al x.l.length cl) ∧ w'.cell? ⟨w.heap.size, 0, none⟩ = some (.int .i64 r.kind) ∧ w'.cell? ⟨w.heap.size, 1, none⟩ = some (.int .u64 r.frame) ∧ w'.cell? ⟨w.heap.size, 2, none⟩ = some (.int .u8 r.own) ∧ w'.cell? ⟨w.heap.size, 3, none⟩ = some (.int .u8 r.p0) ∧ w'.cell? ⟨w.heap.size, 4, none⟩ = some (.int .u8 r.p1) ∧ w'.cell? ⟨w.heap.size, 5, none⟩ = some (.int .u64 r.seg) ∧ w'.cell? ⟨w.heap.size, 6, none⟩ = some (.int .u64 r.first) ∧ w'.cell? ⟨w.heap.size, 7, none⟩ = some (.int .u64 r.epoch) ∧ w'.cell? ⟨w.heap.size, 8, none⟩ = some (.int .u8 r.player))) (ds := [19, 22]) #[false, false, false, false, false, false, false, false, false, false, false, false, false, false, false, false, false, false, false, false, false, false, false] (by kernel_rfl) rfl rfl ⟨blk_cell (HMd.out).hg 13, blk_cell (HMd.out).hg 10, blk_cell (HMd.out).hr 0, blk_cell (HMd.out).hr 1, blk_cell (HMd.out).hr 2, blk_cell (HMd.out).hr 3, blk_cell (HMd.out).hr 4, blk_cell (HMd.out).hr 5, blk_cell (HMd.out).hr 6, blk_cell (HMd.out).hr 7, blk_cell (HMd.out).hr 8⟩ (fun hHeld => ?_)
            generalize w1.drew = wd at HMd hHeld ⊢
            refine pure_ (i := 0) (N := some 48) (v := ?_) (a' := ?_) #[true, false, false, false, false, false, false, false, false, false, false, false, false, false, false, false, false, false, false, false, false, false, false] rfl rfl (by kernel_rfl) (fun _ _ _ h => h) (Or.inl ⟨by rfl, ?_⟩) ?_ ?_
            rotate_left
            · intro w'
              go_simp
              with_reducible rfl
            rotate_left
            · simp only [Act.put, List.setIfInBounds_toArray, List.set_cons_zero, List.set_cons_succ, i64_w, i32_w]
              rfl
            refine pure_ (i := 1) (N := some 49) (v := ?_) (a' := ?_) #[true, true, false, false, false, false, false, false, false, false, false, false, false, false, false, false, false, false, false, false, false, false, false] rfl rfl (by kernel_rfl) (fun _ _ _ h => h) (Or.inl ⟨by rfl, ?_⟩) ?_ ?_
            rotate_left
            · intro w'
              go_simp
              with_reducible rfl
            rotate_left
            · simp only [Act.put, List.setIfInBounds_toArray, List.set_cons_zero, List.set_cons_succ, i64_w, i32_w]
              rfl
            refine pure_ (i := 2) (N := some 50) (v := ?_) (a' := ?_) #[true, true, true, false, false, false, false, false, false, false, false, false, false, false, false, false, false, false, false, false, false, false, false] rfl rfl (by kernel_rfl) (fun _ _ _ h => h) (Or.inl ⟨by rfl, ?_⟩) ?_ ?_
            rotate_left
            · intro w'
              go_simp
              with_reducible rfl
            rotate_left
            · simp only [Act.put, List.setIfInBounds_toArray, List.set_cons_zero, List.set_cons_succ, i64_w, i32_w]
              rfl
            refine pure_ (i := 3) (N := some 51) (v := ?_) (a' := ?_) #[true, true, true, true, false, false, false, false, false, false, false, false, false, false, false, false, false, false, false, false, false, false, false] rfl rfl (by kernel_rfl) (fun _ _ _ h => h) (Or.inl ⟨by rfl, ?_⟩) ?_ ?_
            rotate_left
            · intro w'
              go_simp
              with_reducible rfl
            rotate_left
            · simp only [Act.put, List.setIfInBounds_toArray, List.set_cons_zero, List.set_cons_succ, i64_w, i32_w]
              rfl
            refine pure_ (i := 4) (N := some 52) (v := ?_) (a' := ?_) #[true, true, true, true, true, false, false, false, false, false, false, false, false, false, false, false, false, false, false, false, false, false, false] rfl rfl (by kernel_rfl) (fun _ _ _ h => h) (Or.inl ⟨by rfl, ?_⟩) ?_ ?_
            rotate_left
            · intro w'
              go_simp
              with_reducible rfl
            rotate_left
            · simp only [Act.put, List.setIfInBounds_toArray, List.set_cons_zero, List.set_cons_succ, i64_w, i32_w]
              rfl
            refine pure_ (i := 6) (N := some 54) (v := ?_) (a' := ?_) #[true, true, true, true, true, false, true, false, false, false, false, false, false, false, false, false, false, false, false, false, false, false, false] rfl rfl (by kernel_rfl) (fun _ _ _ h => h) (Or.inl ⟨by rfl, ?_⟩) ?_ ?_
            rotate_left
            · intro w'
              go_simp
              with_reducible rfl
            rotate_left
            · simp only [Act.put, List.setIfInBounds_toArray, List.set_cons_zero, List.set_cons_succ, i64_w, i32_w]
              rfl
            refine pure_ (i := 10) (N := some 58) (v := ?_) (a' := ?_) #[true, true, true, true, true, false, true, false, false, false, true, false, false, false, false, false, false, false, false, false, false, false, false] rfl rfl (by kernel_rfl) (fun _ _ _ h => h) (Or.inl ⟨by rfl, ?_⟩) ?_ ?_
            rotate_left
            · intro w'
              go_simp
              with_reducible rfl
            rotate_left
            · simp only [Act.put, List.setIfInBounds_toArray, List.set_cons_zero, List.set_cons_succ, i64_w, i32_w]
              rfl
            refine pure_ (i := 11) (N := some 59) (v := ?_) (a' := ?_) #[true, true, true, true, true, false, true, false, false, false, true, true, false, false, false, false, false, false, false, false, false, false, false] rfl rfl (by kernel_rfl) (fun _ _ _ h => h) (Or.inl ⟨by rfl, ?_⟩) ?_ ?_
            rotate_left
            · intro w'
              go_simp
              with_reducible rfl
            rotate_left
            · simp only [Act.put, List.setIfInBounds_toArray, List.set_cons_zero, List.set_cons_succ, i64_w, i32_w]
              rfl
            refine pure_ (i := 12) (N := some 60) (v := ?_) (a' := ?_) #[true, true, true, true, true, false, true, false, false, false, true, true, true, false, false, false, false, false, false, false, false, false, false] rfl rfl (by kernel_rfl) (fun _ _ _ h => h) (Or.inl ⟨by rfl, ?_⟩) ?_ ?_
            rotate_left
            · intro w'
              go_simp
              with_reducible rfl
            rotate_left
            · simp only [Act.put, List.setIfInBounds_toArray, List.set_cons_zero, List.set_cons_succ, i64_w, i32_w]
              rfl
            refine take_ (i := 5) (N := some 53) (v := ?_) (a' := ?_) #[true, true, true, true, true, true, true, false, false, false, true, true, true, false, false, false, false, false, false, false, false, false, false] rfl rfl (by kernel_rfl) (fun _ _ _ h => h) (Or.inl ⟨by rfl, ?_⟩) hHeld ?_ ?_
            rotate_left
            · rintro w' ⟨s0, s1, s2, s3, s4, s5, s6, s7, s8, s9, s10⟩
              go_simp
              with_reducible rfl
            rotate_left
            · simp only [Act.put, List.setIfInBounds_toArray, List.set_cons_zero, List.set_cons_succ, i64_w, i32_w]
              rfl
            refine take_ (i := 7) (N := some 55) (v := ?_) (a' := ?_) #[true, true, true, true, true, true, true, true, false, false, true, true, true, false, false, false, false, false, false, false, false, false, false] rfl rfl (by kernel_rfl) (fun _ _ _ h => h) (Or.inl ⟨by rfl, ?_⟩) hHeld ?_ ?_
            rotate_left
            · rintro w' ⟨s0, s1, s2, s3, s4, s5, s6, s7, s8, s9, s10⟩
              go_simp
              with_reducible rfl
            rotate_left
            · simp only [Act.put, List.setIfInBounds_toArray, List.set_cons_zero, List.set_cons_succ, i64_w, i32_w]
              rfl
            refine take_ (i := 13) (N := some 61) (v := ?_) (a' := ?_) #[true, true, true, true, true, true, true, true, false, false, true, true, true, true, false, false, false, false, false, false, false, false, false] rfl rfl (by kernel_rfl) (fun _ _ _ h => h) (Or.inl ⟨by rfl, ?_⟩) hHeld ?_ ?_
            rotate_left
            · rintro w' ⟨s0, s1, s2, s3, s4, s5, s6, s7, s8, s9, s10⟩
              go_simp
              with_reducible rfl
            rotate_left
            · simp only [Act.put, List.setIfInBounds_toArray, List.set_cons_zero, List.set_cons_succ, i64_w, i32_w]
              rfl
            refine take_ (i := 14) (N := some 62) (v := ?_) (a' := ?_) #[true, true, true, true, true, true, true, true, false, false, true, true, true, true, true, false, false, false, false, false, false, false, false] rfl rfl (by kernel_rfl) (fun _ _ _ h => h) (Or.inl ⟨by rfl, ?_⟩) hHeld ?_ ?_
            rotate_left
            · rintro w' ⟨s0, s1, s2, s3, s4, s5, s6, s7, s8, s9, s10⟩
              go_simp
              with_reducible rfl
            rotate_left
            · simp only [Act.put, List.setIfInBounds_toArray, List.set_cons_zero, List.set_cons_succ, i64_w, i32_w]
              rfl
            refine join_ (σ := Value × (Option Addr × Nat) × Value × (Option Addr × Nat)) 6 #[true, true, true, true, true, true, true, true, true, true, true, true, true, true, true, true, true, false, false, false, false, false, false] (fun s_ => [(56, s_.1), (57, .slice s_.2.1.1 (x.owned.length + 1) s_.2.1.2), (63, s_.2.2.1), (64, .slice s_.2.2.2.1 (x.l.length + 1) s_.2.2.2.2)]) (fun s_ w' => Mid w base g n x r (.slice Al x.l.length cl) (.slice Ao x.owned.length co) F w' (x.l ++ [r]) (x.owned ++ [r.own]) (.slice s_.2.2.2.1 (x.l.length + 1) s_.2.2.2.2) (.slice s_.2.1.1 (x.owned.length + 1) s_.2.1.2)) ?_ ?_
            rotate_left
            · intro hCont
              refine two_ (i := 8) (j := 15) (Ni := some 56) (Nj := some 63) #[true, true, true, true, true, true, true, true, true, false, true, true, true, true, true, false, false, false, false, false, false, false, false] #[true, true, true, true, true, true, true, true, false, false, true, true, true, true, true, true, false, false, false, false, false, false, false] rfl rfl rfl rfl (by kernel_rfl) (by decide) (by decide) (fun K hK => ?_) (fun K hK => ?_)
              · refine value_ (w1 := ?_) (v := ?_) (by rfl) rfl ?_ ?_
                rotate_left 2
                · go_simp
                  constructor
                  · rfl
                  · rfl
                refine hK.out _ _ ⟨blk_cell (mid_alloc (HMd.out) hbw _).hg 13, blk_cell (mid_alloc (HMd.out) hbw _).hg 10, blk_cell (mid_alloc (HMd.out) hbw _).hr 0, blk_cell (mid_alloc (HMd.out) hbw _).hr 1, blk_cell (mid_alloc (HMd.out) hbw _).hr 2, blk_cell (mid_alloc (HMd.out) hbw _).hr 3, blk_cell (mid_alloc (HMd.out) hbw _).hr 4, blk_cell (mid_alloc (HMd.out) hbw _).hr 5, blk_cell (mid_alloc (HMd.out) hbw _).hr 6, blk_cell (mid_alloc (HMd.out) hbw _).hr 7, blk_cell (mid_alloc (HMd.out) hbw _).hr 8⟩ (fun hHeld => ?_)
                clear hK K
                refine norm_ (a' := ?_) ?_ ?_
                rotate_left
                · show Act.put _ (some 56) _ = _
                  simp only [Act.put, List.setIfInBounds_toArray, List.set_cons_zero, List.set_cons_succ, i64_w, i32_w]
                  rfl
                refine two_ (i := 9) (j := 15) (Ni := some 57) (Nj := some 63) #[true, true, true, true, true, true, true, true, true, true, true, true, true, true, true, false, false, false, false, false, false, false, false] #[true, true, true, true, true, true, true, true, true, false, true, true, true, true, true, true, false, false, false, false, false, false, false] rfl rfl rfl rfl (by kernel_rfl) (by decide) (by decide) (fun K hK => ?_) (fun K hK => ?_)
                · refine q_app_step base (by rfl) (.tmp 53) (.tmp 56) 70 47 (.int .u8 0) 1 1 (by rfl) Tryd.underlying70 info47 rfl (by decide) (by decide) (.slice Ao x.owned.length co) x.owned.length (nums .u8 x.owned) ⟨wd.heap.size, 0, none⟩ 1 1 [.int .u8 r.own] (by rfl) (by rfl) (by decide) rfl ?hn (by intro u hu; simp at hu; subst hu; rfl) ?hq ?hbase (by omega) ?_
                  case hn => exact news_blk (heap_alloc_new wd _)
                  case hq => exact (mid_alloc (HMd.out) hbw _).qo
                  case hbase => exact mid_base (mid_alloc (HMd.out) hbw _) hbw
                  intro v_ w2 hq hgr hat
                  obtain ⟨AO, cO, hv_, _⟩ := q_slice hq
                  subst hv_
                  have HM2 := Lib.hid (mid_appO (mid_alloc (HMd.out) hbw _) hvo hbw r.own hq hgr hat)
                  have HFar2 := Lib.hid (fun k o (hk : w.heap.size ≤ k) hb => mid_far (mid_alloc (HMd.out) hbw _) hvo hgr (k := k) (o := o) hk hb)
                  clear hq hgr hat
                  refine hK.out _ _ ⟨blk_cell (HM2.out).hg 13, blk_cell (HM2.out).hg 10, blk_cell (HM2.out).hr 0, blk_cell (HM2.out).hr 1, blk_cell (HM2.out).hr 2, blk_cell (HM2.out).hr 3, blk_cell (HM2.out).hr 4, blk_cell (HM2.out).hr 5, blk_cell (HM2.out).hr 6, blk_cell (HM2.out).hr 7, blk_cell (HM2.out).hr 8⟩ (fun hHeld => ?_)
                  clear hK K
                  refine norm_ (a' := ?_) ?_ ?_
                  rotate_left
                  · show Act.put _ (some 57) _ = _
                    simp only [Act.put, List.setIfInBounds_toArray, List.set_cons_zero, List.set_cons_succ, i64_w, i32_w]
                    rfl
                  refine one_ (i := 15) (N := some 63) #[true, true, true, true, true, true, true, true, true, true, true, true, true, true, true, true, false, false, false, false, false, false, false] rfl rfl (by kernel_rfl) (by decide) (fun K hK => ?_)
                  refine value_ (w1 := ?_) (v := ?_) (by rfl) rfl ?_ ?_
                  rotate_left 2
                  · go_simp
                    constructor
                    · rfl
                    · rfl
                  refine hK.out _ _ ⟨blk_cell (mid_alloc (HM2.out) hbw _).hg 13, blk_cell (mid_alloc (HM2.out) hbw _).hg 10, blk_cell (mid_alloc (HM2.out) hbw _).hr 0, blk_cell (mid_alloc (HM2.out) hbw _).hr 1, blk_cell (mid_alloc (HM2.out) hbw _).hr 2, blk_cell (mid_alloc (HM2.out) hbw _).hr 3, blk_cell (mid_alloc (HM2.out) hbw _).hr 4, blk_cell (mid_alloc (HM2.out) hbw _).hr 5, blk_cell (mid_alloc (HM2.out) hbw _).hr 6, blk_cell (mid_alloc (HM2.out) hbw _).hr 7, blk_cell (mid_alloc (HM2.out) hbw _).hr 8⟩ (fun hHeld => ?_)
                  clear hK K
                  refine norm_ (a' := ?_) ?_ ?_
                  rotate_left
                  · show Act.put _ (some 63) _ = _
                    simp only [Act.put, List.setIfInBounds_toArray, List.set_cons_zero, List.set_cons_succ, i64_w, i32_w]
                    rfl
                  refine one_ (i := 16) (N := some 64) #[true, true, true, true, true, true, true, true, true, true, true, true, true, true, true, true, true, false, false, false, false, false, false] rfl rfl (by kernel_rfl) (by decide) (fun K hK => ?_)
                  refine q_app_step base (by rfl) (.tmp 61) (.tmp 63) 52 51 Rec.zero.val 9 56 (by rfl) Tryd.underlying52 info51b rfl (by decide) (by decide) (.slice Al x.l.length cl) x.l.length (flatR x.l) ⟨w2.heap.size, 0, none⟩ 1 1 r.cells.toList (by rfl) (by rfl) (by decide) rfl ?hn (by intro u hu; exact (Array.all_eq_true_iff_forall_mem.1 r.ones) u (by simpa using hu)) ?hq ?hbase (by omega) ?_
                  case hn => exact news_blk (heap_alloc_new w2 _)
                  case hq => exact (mid_alloc (HM2.out) hbw _).ql
                  case hbase => exact mid_base (mid_alloc (HM2.out) hbw _) hbw
                  intro v_ w3 hq hgr hat
                  obtain ⟨AL, cL, hv_, _⟩ := q_slice hq
                  subst hv_
                  have HM3 := Lib.hid (mid_appL (mid_alloc (HM2.out) hbw _) hvl hbw r hq hgr hat)
                  have HFar3 := Lib.hid (fun k o (hk : w.heap.size ≤ k) hb => mid_far (mid_alloc (HM2.out) hbw _) hvl hgr (k := k) (o := o) hk hb)
                  clear hq hgr hat
                  refine hK.out _ _ ⟨blk_cell (HM3.out).hg 13, blk_cell (HM3.out).hg 10, blk_cell (HM3.out).hr 0, blk_cell (HM3.out).hr 1, blk_cell (HM3.out).hr 2, blk_cell (HM3.out).hr 3, blk_cell (HM3.out).hr 4, blk_cell (HM3.out).hr 5, blk_cell (HM3.out).hr 6, blk_cell (HM3.out).hr 7, blk_cell (HM3.out).hr 8⟩ (fun hHeld => ?_)
                  clear hK K
                  refine norm_ (a' := ?_) ?_ ?_
                  rotate_left
                  · show Act.put _ (some 64) _ = _
                    simp only [Act.put, List.setIfInBounds_toArray, List.set_cons_zero, List.set_cons_succ, i64_w, i32_w]
                    rfl
                  exact hCont (_, (AO, cO), _, (AL, cL)) _ HM3.out
                · refine value_ (w1 := ?_) (v := ?_) (by rfl) rfl ?_ ?_
                  rotate_left 2
                  · go_simp
                    constructor
                    · rfl
                    · rfl
                  refine hK.out _ _ ⟨blk_cell (mid_alloc (mid_alloc (HMd.out) hbw _) hbw _).hg 13, blk_cell (mid_alloc (mid_alloc (HMd.out) hbw _) hbw _).hg 10, blk_cell (mid_alloc (mid_alloc (HMd.out) hbw _) hbw _).hr 0, blk_cell (mid_alloc (mid_alloc (HMd.out) hbw _) hbw _).hr 1, blk_cell (mid_alloc (mid_alloc (HMd.out) hbw _) hbw _).hr 2, blk_cell (mid_alloc (mid_alloc (HMd.out) hbw _) hbw _).hr 3, blk_cell (mid_alloc (mid_alloc (HMd.out) hbw _) hbw _).hr 4, blk_cell (mid_alloc (mid_alloc (HMd.out) hbw _) hbw _).hr 5, blk_cell (mid_alloc (mid_alloc (HMd.out) hbw _) hbw _).hr 6, blk_cell (mid_alloc (mid_alloc (HMd.out) hbw _) hbw _).hr 7, blk_cell (mid_alloc (mid_alloc (HMd.out) hbw _) hbw _).hr 8⟩ (fun hHeld => ?_)
                  clear hK K
                  refine norm_ (a' := ?_) ?_ ?_
                  rotate_left
                  · show Act.put _ (some 63) _ = _
                    simp only [Act.put, List.setIfInBounds_toArray, List.set_cons_zero, List.set_cons_succ, i64_w, i32_w]
                    rfl
                  refine one_ (i := 9) (N := some 57) #[true, true, true, true, true, true, true, true, true, true, true, true, true, true, true, true, false, false, false, false, false, false, false] rfl rfl (by kernel_rfl) (by decide) (fun K hK => ?_)
                  refine q_app_step base (by rfl) (.tmp 53) (.tmp 56) 70 47 (.int .u8 0) 1 1 (by rfl) Tryd.underlying70 info47 rfl (by decide) (by decide) (.slice Ao x.owned.length co) x.owned.length (nums .u8 x.owned) ⟨wd.heap.size, 0, none⟩ 1 1 [.int .u8 r.own] (by rfl) (by rfl) (by decide) rfl ?hn (by intro u hu; simp at hu; subst hu; rfl) ?hq ?hbase (by omega) ?_
                  case hn => exact news_blk (blk_alloc (heap_alloc_new wd _) _)
                  case hq => exact (mid_alloc (mid_alloc (HMd.out) hbw _) hbw _).qo
                  case hbase => exact mid_base (mid_alloc (mid_alloc (HMd.out) hbw _) hbw _) hbw
                  intro v_ w2 hq hgr hat
                  obtain ⟨AO, cO, hv_, _⟩ := q_slice hq
                  subst hv_
                  have HM2 := Lib.hid (mid_appO (mid_alloc (mid_alloc (HMd.out) hbw _) hbw _) hvo hbw r.own hq hgr hat)
                  have HFar2 := Lib.hid (fun k o (hk : w.heap.size ≤ k) hb => mid_far (mid_alloc (mid_alloc (HMd.out) hbw _) hbw _) hvo hgr (k := k) (o := o) hk hb)
                  clear hq hgr hat
                  refine hK.out _ _ ⟨blk_cell (HM2.out).hg 13, blk_cell (HM2.out).hg 10, blk_cell (HM2.out).hr 0, blk_cell (HM2.out).hr 1, blk_cell (HM2.out).hr 2, blk_cell (HM2.out).hr 3, blk_cell (HM2.out).hr 4, blk_cell (HM2.out).hr 5, blk_cell (HM2.out).hr 6, blk_cell (HM2.out).hr 7, blk_cell (HM2.out).hr 8⟩ (fun hHeld => ?_)
                  clear hK K
                  refine norm_ (a' := ?_) ?_ ?_
                  rotate_left
                  · show Act.put _ (some 57) _ = _
                    simp only [Act.put, List.setIfInBounds_toArray, List.set_cons_zero, List.set_cons_succ, i64_w, i32_w]
                    rfl
                  refine one_ (i := 16) (N := some 64) #[true, true, true, true, true, true, true, true, true, true, true, true, true, true, true, true, true, false, false, false, false, false, false] rfl rfl (by kernel_rfl) (by decide) (fun K hK => ?_)
                  refine q_app_step base (by rfl) (.tmp 61) (.tmp 63) 52 51 Rec.zero.val 9 56 (by rfl) Tryd.underlying52 info51b rfl (by decide) (by decide) (.slice Al x.l.length cl) x.l.length (flatR x.l) ⟨wd.heap.size + 1, 0, none⟩ 1 1 r.cells.toList (by rfl) (by rfl) (by decide) rfl ?hn (by intro u hu; exact (Array.all_eq_true_iff_forall_mem.1 r.ones) u (by simpa using hu)) ?hq ?hbase (by omega) ?_
                  case hn => exact news_blk (HFar2.out _ _ (by have := mid_lt HMd.out; omega) (blk_alloc2 wd _ _))
                  case hq => exact (HM2.out).ql
                  case hbase => exact mid_base (HM2.out) hbw
                  intro v_ w3 hq hgr hat
                  obtain ⟨AL, cL, hv_, _⟩ := q_slice hq
                  subst hv_
                  have HM3 := Lib.hid (mid_appL (HM2.out) hvl hbw r hq hgr hat)
                  have HFar3 := Lib.hid (fun k o (hk : w.heap.size ≤ k) hb => mid_far (HM2.out) hvl hgr (k := k) (o := o) hk hb)
                  clear hq hgr hat
                  refine hK.out _ _ ⟨blk_cell (HM3.out).hg 13, blk_cell (HM3.out).hg 10, blk_cell (HM3.out).hr 0, blk_cell (HM3.out).hr 1, blk_cell (HM3.out).hr 2, blk_cell (HM3.out).hr 3, blk_cell (HM3.out).hr 4, blk_cell (HM3.out).hr 5, blk_cell (HM3.out).hr 6, blk_cell (HM3.out).hr 7, blk_cell (HM3.out).hr 8⟩ (fun hHeld => ?_)
                  clear hK K
                  refine norm_ (a' := ?_) ?_ ?_
                  rotate_left
                  · show Act.put _ (some 64) _ = _
                    simp only [Act.put, List.setIfInBounds_toArray, List.set_cons_zero, List.set_cons_succ, i64_w, i32_w]
                    rfl
                  exact hCont (_, (AO, cO), _, (AL, cL)) _ HM3.out
              · refine value_ (w1 := ?_) (v := ?_) (by rfl) rfl ?_ ?_
                rotate_left 2
                · go_simp
                  constructor
                  · rfl
                  · rfl
                refine hK.out _ _ ⟨blk_cell (mid_alloc (HMd.out) hbw _).hg 13, blk_cell (mid_alloc (HMd.out) hbw _).hg 10, blk_cell (mid_alloc (HMd.out) hbw _).hr 0, blk_cell (mid_alloc (HMd.out) hbw _).hr 1, blk_cell (mid_alloc (HMd.out) hbw _).hr 2, blk_cell (mid_alloc (HMd.out) hbw _).hr 3, blk_cell (mid_alloc (HMd.out) hbw _).hr 4, blk_cell (mid_alloc (HMd.out) hbw _).hr 5, blk_cell (mid_alloc (HMd.out) hbw _).hr 6, blk_cell (mid_alloc (HMd.out) hbw _).hr 7, blk_cell (mid_alloc (HMd.out) hbw _).hr 8⟩ (fun hHeld => ?_)
                clear hK K
                refine norm_ (a' := ?_) ?_ ?_
                rotate_left
                · show Act.put _ (some 63) _ = _
                  simp only [Act.put, List.setIfInBounds_toArray, List.set_cons_zero, List.set_cons_succ, i64_w, i32_w]
                  rfl
                refine one_ (i := 8) (N := some 56) #[true, true, true, true, true, true, true, true, true, false, true, true, true, true, true, true, false, false, false, false, false, false, false] rfl rfl (by kernel_rfl) (by decide) (fun K hK => ?_)
                refine value_ (w1 := ?_) (v := ?_) (by rfl) rfl ?_ ?_
                rotate_left 2
                · go_simp
                  constructor
                  · rfl
                  · rfl
                refine hK.out _ _ ⟨blk_cell (mid_alloc (mid_alloc (HMd.out) hbw _) hbw _).hg 13, blk_cell (mid_alloc (mid_alloc (HMd.out) hbw _) hbw _).hg 10, blk_cell (mid_alloc (mid_alloc (HMd.out) hbw _) hbw _).hr 0, blk_cell (mid_alloc (mid_alloc (HMd.out) hbw _) hbw _).hr 1, blk_cell (mid_alloc (mid_alloc (HMd.out) hbw _) hbw _).hr 2, blk_cell (mid_alloc (mid_alloc (HMd.out) hbw _) hbw _).hr 3, blk_cell (mid_alloc (mid_alloc (HMd.out) hbw _) hbw _).hr 4, blk_cell (mid_alloc (mid_alloc (HMd.out) hbw _) hbw _).hr 5, blk_cell (mid_alloc (mid_alloc (HMd.out) hbw _) hbw _).hr 6, blk_cell (mid_alloc (mid_alloc (HMd.out) hbw _) hbw _).hr 7, blk_cell (mid_alloc (mid_alloc (HMd.out) hbw _) hbw _).hr 8⟩ (fun hHeld => ?_)
                clear hK K
                refine norm_ (a' := ?_) ?_ ?_
                rotate_left
                · show Act.put _ (some 56) _ = _
                  simp only [Act.put, List.setIfInBounds_toArray, List.set_cons_zero, List.set_cons_succ, i64_w, i32_w]
                  rfl
                refine one_ (i := 9) (N := some 57) #[true, true, true, true, true, true, true, true, true, true, true, true, true, true, true, true, false, false, false, false, false, false, false] rfl rfl (by kernel_rfl) (by decide) (fun K hK => ?_)
                refine q_app_step base (by rfl) (.tmp 53) (.tmp 56) 70 47 (.int .u8 0) 1 1 (by rfl) Tryd.underlying70 info47 rfl (by decide) (by decide) (.slice Ao x.owned.length co) x.owned.length (nums .u8 x.owned) ⟨wd.heap.size + 1, 0, none⟩ 1 1 [.int .u8 r.own] (by rfl) (by rfl) (by decide) rfl ?hn (by intro u hu; simp at hu; subst hu; rfl) ?hq ?hbase (by omega) ?_
                case hn => exact news_blk (blk_alloc2 wd _ _)
                case hq => exact (mid_alloc (mid_alloc (HMd.out) hbw _) hbw _).qo
                case hbase => exact mid_base (mid_alloc (mid_alloc (HMd.out) hbw _) hbw _) hbw
                intro v_ w2 hq hgr hat
                obtain ⟨AO, cO, hv_, _⟩ := q_slice hq
                subst hv_
                have HM2 := Lib.hid (mid_appO (mid_alloc (mid_alloc (HMd.out) hbw _) hbw _) hvo hbw r.own hq hgr hat)
                have HFar2 := Lib.hid (fun k o (hk : w.heap.size ≤ k) hb => mid_far (mid_alloc (mid_alloc (HMd.out) hbw _) hbw _) hvo hgr (k := k) (o := o) hk hb)
                clear hq hgr hat
                refine hK.out _ _ ⟨blk_cell (HM2.out).hg 13, blk_cell (HM2.out).hg 10, blk_cell (HM2.out).hr 0, blk_cell (HM2.out).hr 1, blk_cell (HM2.out).hr 2, blk_cell (HM2.out).hr 3, blk_cell (HM2.out).hr 4, blk_cell (HM2.out).hr 5, blk_cell (HM2.out).hr 6, blk_cell (HM2.out).hr 7, blk_cell (HM2.out).hr 8⟩ (fun hHeld => ?_)
                clear hK K
                refine norm_ (a' := ?_) ?_ ?_
                rotate_left
                · show Act.put _ (some 57) _ = _
                  simp only [Act.put, List.setIfInBounds_toArray, List.set_cons_zero, List.set_cons_succ, i64_w, i32_w]
                  rfl
                refine one_ (i := 16) (N := some 64) #[true, true, true, true, true, true, true, true, true, true, true, true, true, true, true, true, true, false, false, false, false, false, false] rfl rfl (by kernel_rfl) (by decide) (fun K hK => ?_)
                refine q_app_step base (by rfl) (.tmp 61) (.tmp 63) 52 51 Rec.zero.val 9 56 (by rfl) Tryd.underlying52 info51b rfl (by decide) (by decide) (.slice Al x.l.length cl) x.l.length (flatR x.l) ⟨wd.heap.size, 0, none⟩ 1 1 r.cells.toList (by rfl) (by rfl) (by decide) rfl ?hn (by intro u hu; exact (Array.all_eq_true_iff_forall_mem.1 r.ones) u (by simpa using hu)) ?hq ?hbase (by omega) ?_
                case hn => exact news_blk (HFar2.out _ _ (by have := mid_lt HMd.out; omega) (blk_alloc (heap_alloc_new wd _) _))
                case hq => exact (HM2.out).ql
                case hbase => exact mid_base (HM2.out) hbw
                intro v_ w3 hq hgr hat
                obtain ⟨AL, cL, hv_, _⟩ := q_slice hq
                subst hv_
                have HM3 := Lib.hid (mid_appL (HM2.out) hvl hbw r hq hgr hat)
                have HFar3 := Lib.hid (fun k o (hk : w.heap.size ≤ k) hb => mid_far (HM2.out) hvl hgr (k := k) (o := o) hk hb)
                clear hq hgr hat
                refine hK.out _ _ ⟨blk_cell (HM3.out).hg 13, blk_cell (HM3.out).hg 10, blk_cell (HM3.out).hr 0, blk_cell (HM3.out).hr 1, blk_cell (HM3.out).hr 2, blk_cell (HM3.out).hr 3, blk_cell (HM3.out).hr 4, blk_cell (HM3.out).hr 5, blk_cell (HM3.out).hr 6, blk_cell (HM3.out).hr 7, blk_cell (HM3.out).hr 8⟩ (fun hHeld => ?_)
                clear hK K
                refine norm_ (a' := ?_) ?_ ?_
                rotate_left
                · show Act.put _ (some 64) _ = _
                  simp only [Act.put, List.setIfInBounds_toArray, List.set_cons_zero, List.set_cons_succ, i64_w, i32_w]
                  rfl
                exact hCont (_, (AO, cO), _, (AL, cL)) _ HM3.out
            rintro ⟨v56, ⟨AO, cO⟩, v63, ⟨AL, cL⟩⟩ w3 hM3
            have HM3 := Lib.hid hM3
            clear hM3
            simp only [putAll]
            refine norm_ (a' := ?_) ?_ ?_
            rotate_left
            · simp only [Act.put, List.setIfInBounds_toArray, List.set_cons_zero, List.set_cons_succ, i64_w, i32_w]
              rfl
            refine pure_ (i := 17) (N := some 65) (v := ?_) (a' := ?_) #[true, true, true, true, true, true, true, true, true, true, true, true, true, true, true, true, true, true, false, false, false, false, false] rfl rfl (by kernel_rfl) (fun _ _ _ h => h) (Or.inl ⟨by rfl, ?_⟩) ?_ ?_
            rotate_left
            · intro w'
              go_simp
              with_reducible rfl
            rotate_left
            · simp only [Act.put, List.setIfInBounds_toArray, List.set_cons_zero, List.set_cons_succ, i64_w, i32_w]
              rfl
            refine pure_ (i := 18) (N := some 66) (v := ?_) (a' := ?_) #[true, true, true, true, true, true, true, true, true, true, true, true, true, true, true, true, true, true, true, false, false, false, false] rfl rfl (by kernel_rfl) (fun _ _ _ h => h) (Or.inl ⟨by rfl, ?_⟩) ?_ ?_
            rotate_left
            · intro w'
              go_simp
              with_reducible rfl
            rotate_left
            · simp only [Act.put, List.setIfInBounds_toArray, List.set_cons_zero, List.set_cons_succ, i64_w, i32_w]
              rfl
            refine last_ (i := 19) (N := none) #[true, true, true, true, true, true, true, true, true, true, true, true, true, true, true, true, true, true, true, true, false, false, false] rfl rfl (by kernel_rfl) (by decide) (fun K hK => ?_)
            have t13 : w3.cell? ⟨g, 13, none⟩ = some (.slice Ao x.owned.length co) := blk_cell HM3.out.hg 13
            have z13 := blk_frozen HM3.out.hg 13
            refine skip_ (w1 := ?_) (by rfl) rfl ?_ ?_
            rotate_left
            · go_simp
              rfl
            refine hK.out _ _ ?_
            clear hK K
            refine pure_ (i := 20) (N := some 67) (v := ?_) (a' := ?_) #[true, true, true, true, true, true, true, true, true, true, true, true, true, true, true, true, true, true, true, true, true, false, false] rfl rfl (by kernel_rfl) (fun _ _ _ h => h) (Or.inl ⟨by rfl, ?_⟩) ?_ ?_
            rotate_left
            · intro w'
              go_simp
              with_reducible rfl
            rotate_left
            · simp only [Act.put, List.setIfInBounds_toArray, List.set_cons_zero, List.set_cons_succ, i64_w, i32_w]
              rfl
            refine pure_ (i := 21) (N := some 68) (v := ?_) (a' := ?_) #[true, true, true, true, true, true, true, true, true, true, true, true, true, true, true, true, true, true, true, true, true, true, false] rfl rfl (by kernel_rfl) (fun _ _ _ h => h) (Or.inl ⟨by rfl, ?_⟩) ?_ ?_
            rotate_left
            · intro w'
              go_simp
              with_reducible rfl
            rotate_left
            · simp only [Act.put, List.setIfInBounds_toArray, List.set_cons_zero, List.set_cons_succ, i64_w, i32_w]
              rfl
            refine last_ (i := 22) (N := none) #[true, true, true, true, true, true, true, true, true, true, true, true, true, true, true, true, true, true, true, true, true, true, true] rfl rfl (by kernel_rfl) (by decide) (fun K hK => ?_)
            have t10 : (w3.setCell ⟨g, 13, none⟩ (.slice AO (x.owned.length + 1) cO)).cell? ⟨g, 10, none⟩ = some (.slice Al x.l.length cl) := (blk_cell (blk_set HM3.out.hg 13 _) 10).trans rfl
            have z10 := blk_frozen (blk_set HM3.out.hg 13 (.slice AO (x.owned.length + 1) cO)) 10
            refine skip_ (w1 := ?_) (by rfl) rfl ?_ ?_
            rotate_left
            · go_simp
              rfl
            refine hK.out _ _ ?_
            clear hK K
            refine done_ (by kernel_rfl) ?_
            go_wp2
            go_ret
            rw [HS.out]
            refine ⟨rfl, mid_end HM3.out h4 h7 hbw (x' := { x with owned := x.owned ++ [r.own], l := x.l ++ [r] }) (blk_set (blk_set HM3.out.hg 13 _) 10 _) ?_ ?_ rfl rfl⟩
            · exact Kept.setCell (S := fun i => i = g) (Kept.setCell (S := fun i => i = g) (Kept.refl _ _) (Or.inl rfl) _) (Or.inl rfl) _
            · exact ((Below.refl base _).setCell hg.1 _).setCell hg.1 _
          · have dfe : (r.frame - x.count != (x.owned.length : Int)) = true := by simp; omega
            have HS := Lib.hid (show ownS x r = (x, 11) from if_neg (fun h => hfe h.2.2.2))
            clear hbeg hmx hfe hfl
            go_enter Tryd.func72, Tryd.ntmps72
            go_wp2_with fail
            go_quiet (fail)
            go_wp2
            go_ret
            rw [HS.out]
            exact ⟨rfl, HDid.out _⟩
    · have d12 : decide (12 ≤ (x.owned.length : Int)) = true := decide_eq_true (by omega)
      have HS := Lib.hid (show ownS x r = (x, 11) from if_neg (fun h => h12 h.2.1))
      clear hbeg
      go_enter Tryd.func72, Tryd.ntmps72
      go_wp2_with fail
      go_quiet (fail)
      go_wp2
      go_ret
      rw [HS.out]
      exact ⟨rfl, HDid.out _⟩
end Go.Proofs.YtnhjhaphfdlkfaaDoor.Sg
