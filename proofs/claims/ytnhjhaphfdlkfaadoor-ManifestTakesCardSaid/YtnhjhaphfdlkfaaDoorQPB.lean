/- Plain laws on the printed functions of the checksum, the frame, the numbers: what each comes to, with enough rounds. -/
import Derived.Test.YtnhjhaphfdlkfaaDoorQHMx4
import Derived.Test.YtnhjhaphfdlkfaaDoorQCrcLaw
set_option linter.unusedVariables false
namespace Go.Proofs.YtnhjhaphfdlkfaaDoor.PB
open Go.RowKit Go.Proofs.YtnhjhaphfdlkfaaDoor.HM Go.Proofs.YtnhjhaphfdlkfaaDoorW.PrintWords Go.Proofs.YtnhjhaphfdlkfaaDoorW.PrintLast Go.Proofs.YtnhjhaphfdlkfaaDoorW.PrintMore
open Go.Proofs.YtnhjhaphfdlkfaaDoor.CrcLaw
/-- With enough rounds it is so. -/
def Evt {α : Type} (g : Nat → Option α) (r : α) : Prop := ∃ K, ∀ k, K ≤ k → g k = some r
theorem Evt.of {α : Type} {g : Nat → Option α} {r : α} (K : Nat) (h : ∀ k, K ≤ k → g k = some r) : Evt g r := ⟨K, h⟩
theorem Evt.pure {α : Type} (r : α) : Evt (fun _ => some r) r := ⟨0, fun _ _ => rfl⟩
theorem Evt.bind {α β : Type} {g : Nat → Option α} {r : α} {f : Nat → α → Option β} {s : β} (h : Evt g r) (h2 : Evt (fun k => f k r) s) : Evt (fun k => (g k).bind (f k)) s := by
  obtain ⟨K, h⟩ := h
  obtain ⟨K2, h2⟩ := h2
  exact ⟨max K K2, fun k hk => by show (g k).bind (f k) = some s; rw [h k (by omega)]; exact h2 k (by omega)⟩
/-! ### numbers of 32 bits -/
theorem bits32 (op : BinOp) (a b : Nat) (ha : a < 4294967296) (hb : b < 4294967296) : Go.bits .xor .u32 a b = ((a ^^^ b : Nat) : Int) := by
  have hx : a ^^^ b < 2 ^ 32 := Nat.xor_lt_two_pow ha hb
  have e : (BitVec.ofInt 32 (a : Int) ^^^ BitVec.ofInt 32 (b : Int)).toNat = a ^^^ b := by
    rw [BitVec.toNat_xor, BitVec.ofInt_natCast, BitVec.ofInt_natCast, BitVec.toNat_ofNat, BitVec.toNat_ofNat, Nat.mod_eq_of_lt (show a < 2 ^ 32 from ha), Nat.mod_eq_of_lt (show b < 2 ^ 32 from hb)]
  show IntKind.u32.wrap (((BitVec.ofInt 32 (a : Int) ^^^ BitVec.ofInt 32 (b : Int)).toNat : Nat) : Int) = _
  rw [e, IntKind.wrap_u32]
  have : ((a ^^^ b : Nat) : Int) < ((4294967296 : Nat) : Int) := Int.ofNat_lt.2 hx
  omega
theorem and32 (a m j : Nat) (hm : m = 2 ^ j - 1) (hj : j ≤ 32) (ha : a < 4294967296) : Go.bits .and .u32 a m = ((a % 2 ^ j : Nat) : Int) := by
  have h := bits_mask .u32 32 (by decide) (fun n h0 h1 => by rw [IntKind.wrap_u32]; omega) j hj (a : Int) (by omega) (by omega)
  have e : ((m : Nat) : Int) = 2 ^ j - 1 := by
    subst hm
    rw [Int.natCast_sub (Nat.one_le_two_pow)]; simp
  rw [e, h]
  simp
theorem tab_is (i : Nat) (hi : i < 16) : Crc.tab (i : Int) = ((tabN i : Nat) : Int) := by
  have : ∀ i : Nat, i < 16 → Crc.tab (i : Int) = ((tabN i : Nat) : Int) := by decide
  exact this i hi
theorem tabN_lt (i : Nat) : tabN i < 4294967296 := by
  unfold tabN
  rcases Nat.lt_or_ge i 16 with h | h
  · have : ∀ i, i < 16 → tabN i < 4294967296 := by decide
    exact this i h
  · rw [List.getD_eq_getElem?_getD, List.getElem?_eq_none (by simpa using h)]; decide
theorem half_int (c : Nat) (hc : c < 4294967296) : Crc.half (c : Int) = ((halfN c : Nat) : Int) := by
  unfold Crc.half halfN
  have h := and32 c 15 4 (by decide) (by decide) hc
  rw [show ((15 : Nat) : Int) = 15 from rfl] at h
  rw [h, tab_is _ (Nat.mod_lt _ (by decide)), show ((c : Int) / 16) = ((c / 16 : Nat) : Int) by omega]
  exact bits32 .xor _ _ (tabN_lt _) (by omega)
theorem halfN_lt (c : Nat) (hc : c < 4294967296) : halfN c < 4294967296 := Nat.xor_lt_two_pow (n := 32) (tabN_lt _) (Nat.lt_of_le_of_lt (Nat.div_le_self _ _) hc)
theorem stepN_lt (c b : Nat) (hc : c < 4294967296) (hb : b < 256) : stepN c b < 4294967296 := halfN_lt _ (halfN_lt _ (Nat.xor_lt_two_pow (n := 32) hc (by omega)))
theorem step_int (c b : Nat) (hc : c < 4294967296) (hb : b < 256) : Crc.stepI (c : Int) (b : Int) = ((stepN c b : Nat) : Int) := by
  unfold Crc.stepI stepN
  have hx : c ^^^ b < 4294967296 := Nat.xor_lt_two_pow (n := 32) hc (by omega)
  rw [bits32 .xor c b hc (by omega), half_int _ hx, half_int _ (halfN_lt _ hx)]
/-! ### the checksum of a text -/
def foldN (c : Nat) (l : List UInt8) : Nat := l.foldl (fun c b => stepN c b.toNat) c
theorem foldN_lt (l : List UInt8) : ∀ c, c < 4294967296 → foldN c l < 4294967296 := by
  induction l with
  | nil => exact fun c h => h
  | cons b l ih => exact fun c h => ih _ (stepN_lt c b.toNat h b.toNat_lt)
theorem foldN_append (c : Nat) (a b : List UInt8) : foldN c (a ++ b) = foldN (foldN c a) b := List.foldl_append
def flip (c : Nat) : Nat := c ^^^ 4294967295
theorem flip_lt (c : Nat) (h : c < 4294967296) : flip c < 4294967296 := Nat.xor_lt_two_pow (n := 32) h (by decide)
theorem flip_flip (c : Nat) : flip (flip c) = c := by unfold flip; rw [Nat.xor_assoc, Nat.xor_self, Nat.xor_zero]
/-- P3.1. -/
def updN (c : Nat) (s : ByteArray) : Nat := flip (foldN (flip c) s.data.toList)
theorem updN_lt (c : Nat) (s : ByteArray) (h : c < 4294967296) : updN c s < 4294967296 := flip_lt _ (foldN_lt _ _ (flip_lt c h))
theorem updN_append (c : Nat) (a b : ByteArray) : updN (updN c a) b = updN c (a ++ b) := by
  unfold updN
  rw [flip_flip, ByteArray.data_append, Array.toList_append, foldN_append]
theorem flip_int (c : Nat) (h : c < 4294967296) : Go.bits .xor .u32 (c : Int) 4294967295 = ((flip c : Nat) : Int) := bits32 .xor c 4294967295 h (by decide)
theorem flip_int' (c : Nat) (h : c < 4294967296) : Go.bits .xor .u32 4294967295 (c : Int) = ((flip c : Nat) : Int) := by
  rw [show (4294967295 : Int) = ((4294967295 : Nat) : Int) from rfl, bits32 .xor 4294967295 c (by decide) h, Nat.xor_comm]; rfl
theorem bt_nat (s : ByteArray) (i : Nat) (h : i < s.size) : bt s (i : Int) = ((s.data.toList[i]'(by simpa using h)).toNat : Int) := by
  unfold bt
  rw [dif_pos (by simpa using h)]
  simp
  rfl
theorem drop_cons (s : ByteArray) (i : Nat) (h : i < s.size) : ∃ b : UInt8, s.data.toList.drop i = b :: s.data.toList.drop (i + 1) ∧ bt s (i : Int) = (b.toNat : Int) :=
  ⟨s.data.toList[i]'(by simpa using h), List.drop_eq_getElem_cons (by simpa using h), bt_nat s i h⟩
theorem step_f (c : Nat) (b : UInt8) (hc : c < 4294967296) : crc_step.f (c : Int) (b.toNat : Int) = some ((stepN c b.toNat : Nat) : Int) := by
  have := b.toNat_lt
  unfold crc_step.f
  rw [if_pos (by omega), step_int c b.toNat hc (by omega)]
theorem update_loop (s : ByteArray) (hs : s.size < 9223372036854775807) (d : Nat) : ∀ (k i c : Nat), c < 4294967296 → i + d = s.size → d < k →
    crc_Update.l0 k (c : Int) s (s.size : Int) (i : Int) = some ((flip (foldN c (s.data.toList.drop i)) : Nat) : Int) := by
  induction d with
  | zero =>
    intro k i c hc hd hk
    obtain ⟨k, rfl⟩ : ∃ m, k = m + 1 := ⟨k - 1, by omega⟩
    simp only [crc_Update.l0]
    rw [if_neg (by omega), List.drop_eq_nil_of_le (by simp; omega), flip_int' c hc]
    rfl
  | succ d ih =>
    intro k i c hc hd hk
    obtain ⟨k, rfl⟩ : ∃ m, k = m + 1 := ⟨k - 1, by omega⟩
    obtain ⟨b, e, hb⟩ := drop_cons s i (by omega)
    have h2 := b.toNat_lt
    simp only [crc_Update.l0]
    rw [if_pos (by omega), if_pos (by omega), if_pos (by omega), hb, step_f c b hc, Option.bind_some]
    rw [show wrap64 ((i : Int) + 1) = ((i + 1 : Nat) : Int) by unfold wrap64; omega, e]
    exact ih k (i + 1) _ (stepN_lt c b.toNat hc h2) (by omega) (by omega)
theorem update_f (c : Nat) (hc : c < 4294967296) (s : ByteArray) (hs : s.size < 9223372036854775807) (k : Nat) (hk : s.size < k) : crc_Update.f k (c : Int) s = some ((updN c s : Nat) : Int) := by
  unfold crc_Update.f
  rw [flip_int' c hc]
  have := update_loop s hs s.size k 0 (flip c) (flip_lt c hc) (by omega) hk
  simpa [updN] using this
theorem sum_f (s : ByteArray) (hs : s.size < 9223372036854775807) (k : Nat) (hk : s.size < k) : crc_Sum.f k s = some ((updN 0 s : Nat) : Int) := by
  unfold crc_Sum.f
  have := update_f 0 (by decide) s hs k hk
  rw [show ((0 : Nat) : Int) = 0 from rfl] at this
  rw [this, Option.bind_some]
/-! ### frames -/
theorem str_append (a b : List Int) : strOfNums (a ++ b) = strOfNums a ++ strOfNums b := by
  apply ByteArray.ext
  apply Array.ext'
  simp [strOfNums]
/-- P4.1. -/
def headN (a : ByteArray) : List Int := Wr.leBytes (a.size : Int) 2 ++ Wr.leBytes ((updN 0 (strOfNums (Wr.leBytes (a.size : Int) 2) ++ a) : Nat) : Int) 4
def frameN (a : ByteArray) : ByteArray := strOfNums (headN a) ++ a
theorem str_len (l : List Int) : (strOfNums l).size = l.length := Wr.str_size l
end Go.Proofs.YtnhjhaphfdlkfaaDoor.PB
