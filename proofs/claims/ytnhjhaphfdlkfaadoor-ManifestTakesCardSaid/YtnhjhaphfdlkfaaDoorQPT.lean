/- Plain laws on the printed functions of reading: numbers, frames, manifests. -/
import Derived.Test.YtnhjhaphfdlkfaaDoorQPM
import Derived.Test.YtnhjhaphfdlkfaaDoorQHMx5
set_option linter.unusedVariables false
namespace Go.Proofs.YtnhjhaphfdlkfaaDoor.PT
open Go.RowKit Go.Proofs.YtnhjhaphfdlkfaaDoor.HM Go.Proofs.YtnhjhaphfdlkfaaDoorW.PrintWords Go.Proofs.YtnhjhaphfdlkfaaDoorW.PrintLast Go.Proofs.YtnhjhaphfdlkfaaDoorW.PrintMore
open Go.Proofs.YtnhjhaphfdlkfaaDoor.PB Go.Proofs.YtnhjhaphfdlkfaaDoor.PM
/-- A number, the lowest byte first. -/
def numN : List UInt8 → Nat
  | [] => 0
  | b :: l => b.toNat + 256 * numN l
theorem numN_lt (l : List UInt8) : numN l < 256 ^ l.length := by
  induction l with
  | nil => decide
  | cons b l ih =>
    have := b.toNat_lt
    simp only [numN, List.length_cons, Nat.pow_succ]
    omega
theorem numN_snoc (l : List UInt8) (b : UInt8) : numN (l ++ [b]) = numN l + b.toNat * 256 ^ l.length := by
  induction l with
  | nil => simp [numN]
  | cons a l ih =>
    simp only [List.cons_append, numN, ih, List.length_cons, Nat.pow_succ, Nat.mul_add]
    rw [Nat.mul_comm 256 (b.toNat * 256 ^ l.length), Nat.mul_assoc]
    omega
theorem pow256 (i : Nat) : 256 ^ i = 2 ^ (8 * i) := by rw [Nat.pow_mul]
theorem or_comm_bits (k : IntKind) (x y : Int) : Go.bits .or k x y = Go.bits .or k y x := by
  unfold Go.bits
  simp only [BitVec.or_comm]
theorem or_join (k : IntKind) (j : Nat) (hj : j ≤ k.bits) (hk : ∀ n : Int, 0 ≤ n → n < 2 ^ j → k.wrap n = n) (i x b : Nat) (hx : x < 2 ^ i) (hb : b * 2 ^ i < 2 ^ j) (hij : i ≤ j) :
    Go.bits .or k (x : Int) ((b * 2 ^ i : Nat) : Int) = ((x + b * 2 ^ i : Nat) : Int) := by
  have p : (2 : Nat) ^ i ≤ 2 ^ j := Nat.pow_le_pow_right (by decide) hij
  rw [or_comm_bits, bits_join k j hj hk i]
  · omega
  · omega
  · have : b * 2 ^ i % 2 ^ i = 0 := Nat.mul_mod_left _ _
    exact_mod_cast this
  · exact_mod_cast hb
  · omega
  · exact_mod_cast hx
  · exact_mod_cast (Nat.lt_of_lt_of_le hx p)
theorem shl_nat (b i : Nat) (hb : b < 256) (hi : i < 8) : shl .u64 (IntKind.u64.wrap (b : Int)) (wrap64 (8 * (i : Int))) = ((b * 2 ^ (8 * i) : Nat) : Int) := by
  have e1 : IntKind.u64.wrap (b : Int) = (b : Int) := IntWalk.u64_in _ ⟨by omega, by omega⟩
  have e2 : wrap64 (8 * (i : Int)) = ((8 * i : Nat) : Int) := by unfold wrap64; omega
  rw [e1, e2]
  unfold shl
  rw [Int.toNat_natCast, show min (8 * i) IntKind.u64.bits = 8 * i by show min (8 * i) 64 = 8 * i; omega]
  have e3 : (b : Int) * 2 ^ (8 * i) = ((b * 2 ^ (8 * i) : Nat) : Int) := by simp
  rw [e3]
  have h1 : b * 2 ^ (8 * i) < 256 * 2 ^ (8 * i) := Nat.mul_lt_mul_of_pos_right hb (Nat.two_pow_pos _)
  have h2 : 256 * 2 ^ (8 * i) ≤ 2 ^ 64 := by
    have : 256 * 2 ^ (8 * i) = 2 ^ (8 + 8 * i) := by rw [Nat.pow_add]
    rw [this]; exact Nat.pow_le_pow_right (by decide) (by omega)
  have h3 : b * 2 ^ (8 * i) < 2 ^ 64 := Nat.lt_of_lt_of_le h1 h2
  generalize b * 2 ^ (8 * i) = m at h3
  exact IntWalk.u64_in _ ⟨by omega, by omega⟩
theorem byte_fits (b i w : Nat) (hb : b < 256) (hi : i < w) : b * 2 ^ (8 * i) < 2 ^ (8 * w) := by
  have h1 : b * 2 ^ (8 * i) < 256 * 2 ^ (8 * i) := Nat.mul_lt_mul_of_pos_right hb (Nat.two_pow_pos _)
  have h2 : 256 * 2 ^ (8 * i) = 2 ^ (8 * (i + 1)) := by rw [Nat.mul_add, Nat.pow_add, Nat.mul_comm]
  have h3 : (2 : Nat) ^ (8 * (i + 1)) ≤ 2 ^ (8 * w) := Nat.pow_le_pow_right (by decide) (by omega)
  omega
theorem take_bt (s : ByteArray) (i : Nat) (h : i < s.size) : ∃ b : UInt8, s.data.toList.take (i + 1) = s.data.toList.take i ++ [b] ∧ bt s (i : Int) = (b.toNat : Int) :=
  ⟨s.data.toList[i]'(by simpa using h), List.take_succ_eq_append_getElem (by simpa using h), bt_nat s i h⟩
theorem get64_loop (s : ByteArray) (hs : s.size ≤ 8) (r : ByteArray) (e : Int) (d : Nat) : ∀ (k i : Nat), i + d = s.size → d < k →
    codec_get_uint64.l0 k ((numN (s.data.toList.take i) : Nat) : Int) s (s.size : Int) (i : Int) r e = some (((numN s.data.toList : Nat) : Int), r, e) := by
  induction d with
  | zero =>
    intro k i hd hk
    obtain ⟨k, rfl⟩ : ∃ m, k = m + 1 := ⟨k - 1, by omega⟩
    simp only [codec_get_uint64.l0]
    rw [if_neg (by omega), List.take_of_length_le (by simp; omega)]
  | succ d ih =>
    intro k i hd hk
    obtain ⟨k, rfl⟩ : ∃ m, k = m + 1 := ⟨k - 1, by omega⟩
    obtain ⟨b, e1, e2⟩ := take_bt s i (by omega)
    have hb := b.toNat_lt
    have hw : wrap64 ((i : Int) + 1) = ((i + 1 : Nat) : Int) := by unfold wrap64; omega
    have hl : (s.data.toList.take i).length = i := by rw [List.length_take]; simp; omega
    have hx := numN_lt (s.data.toList.take i)
    rw [hl, pow256] at hx
    have hf := byte_fits b.toNat i 8 (by omega) (by omega)
    have hn := ih k (i + 1) (by omega) (by omega)
    have hs8 := shl_nat b.toNat i (by omega) (by omega)
    have h8 : 0 ≤ wrap64 (8 * (i : Int)) := by unfold wrap64; omega
    simp only [codec_get_uint64.l0]
    rw [if_pos (by omega), if_pos (by omega), if_pos (by omega), if_pos h8, e2, hs8, hw]
    have hc : ((b.toNat * 2 ^ (8 * i) : Nat) : Int) = ((b.toNat * 2 ^ (8 * i) : Nat) : Int) := by
      generalize b.toNat * 2 ^ (8 * i) = m at hf
      rfl
    rw [or_join .u64 64 (by decide) (fun n h0 h1 => by exact IntWalk.u64_in _ ⟨h0, by omega⟩) (8 * i) _ b.toNat hx hf (by omega)]
    have h9 : numN (s.data.toList.take i) + b.toNat * 2 ^ (8 * i) = numN (s.data.toList.take (i + 1)) := by rw [e1, numN_snoc, hl, pow256]
    rw [h9]
    exact hn
theorem get32_loop (s : ByteArray) (hs : s.size ≤ 4) (r : ByteArray) (e : Int) (d : Nat) : ∀ (k i : Nat), i + d = s.size → d < k →
    codec_get_uint32.l0 k ((numN (s.data.toList.take i) : Nat) : Int) s (s.size : Int) (i : Int) r e = some (((numN s.data.toList : Nat) : Int), r, e) := by
  induction d with
  | zero =>
    intro k i hd hk
    obtain ⟨k, rfl⟩ : ∃ m, k = m + 1 := ⟨k - 1, by omega⟩
    simp only [codec_get_uint32.l0]
    rw [if_neg (by omega), List.take_of_length_le (by simp; omega)]
  | succ d ih =>
    intro k i hd hk
    obtain ⟨k, rfl⟩ : ∃ m, k = m + 1 := ⟨k - 1, by omega⟩
    obtain ⟨b, e1, e2⟩ := take_bt s i (by omega)
    have hb := b.toNat_lt
    have hw : wrap64 ((i : Int) + 1) = ((i + 1 : Nat) : Int) := by unfold wrap64; omega
    have hl : (s.data.toList.take i).length = i := by rw [List.length_take]; simp; omega
    have hx := numN_lt (s.data.toList.take i)
    rw [hl, pow256] at hx
    have hf := byte_fits b.toNat i 4 (by omega) (by omega)
    have hn := ih k (i + 1) (by omega) (by omega)
    have hs8 := shl_nat b.toNat i (by omega) (by omega)
    have h8 : 0 ≤ wrap64 (8 * (i : Int)) := by unfold wrap64; omega
    simp only [codec_get_uint32.l0]
    rw [if_pos (by omega), if_pos (by omega), if_pos (by omega), if_pos h8, e2, hs8, hw]
    have hc : ((b.toNat * 2 ^ (8 * i) : Nat) : Int) % 4294967296 = ((b.toNat * 2 ^ (8 * i) : Nat) : Int) := by
      generalize b.toNat * 2 ^ (8 * i) = m at hf
      omega
    rw [hc, or_join .u32 32 (by decide) (fun n h0 h1 => by rw [IntKind.wrap_u32]; omega) (8 * i) _ b.toNat hx hf (by omega)]
    have h9 : numN (s.data.toList.take i) + b.toNat * 2 ^ (8 * i) = numN (s.data.toList.take (i + 1)) := by rw [e1, numN_snoc, hl, pow256]
    rw [h9]
    exact hn
theorem get16_loop (s : ByteArray) (hs : s.size ≤ 2) (r : ByteArray) (e : Int) (d : Nat) : ∀ (k i : Nat), i + d = s.size → d < k →
    codec_get_uint16.l0 k ((numN (s.data.toList.take i) : Nat) : Int) s (s.size : Int) (i : Int) r e = some (((numN s.data.toList : Nat) : Int), r, e) := by
  induction d with
  | zero =>
    intro k i hd hk
    obtain ⟨k, rfl⟩ : ∃ m, k = m + 1 := ⟨k - 1, by omega⟩
    simp only [codec_get_uint16.l0]
    rw [if_neg (by omega), List.take_of_length_le (by simp; omega)]
  | succ d ih =>
    intro k i hd hk
    obtain ⟨k, rfl⟩ : ∃ m, k = m + 1 := ⟨k - 1, by omega⟩
    obtain ⟨b, e1, e2⟩ := take_bt s i (by omega)
    have hb := b.toNat_lt
    have hw : wrap64 ((i : Int) + 1) = ((i + 1 : Nat) : Int) := by unfold wrap64; omega
    have hl : (s.data.toList.take i).length = i := by rw [List.length_take]; simp; omega
    have hx := numN_lt (s.data.toList.take i)
    rw [hl, pow256] at hx
    have hf := byte_fits b.toNat i 2 (by omega) (by omega)
    have hn := ih k (i + 1) (by omega) (by omega)
    have hs8 := shl_nat b.toNat i (by omega) (by omega)
    have h8 : 0 ≤ wrap64 (8 * (i : Int)) := by unfold wrap64; omega
    simp only [codec_get_uint16.l0]
    rw [if_pos (by omega), if_pos (by omega), if_pos (by omega), if_pos h8, e2, hs8, hw]
    have hc : IntKind.u16.wrap ((b.toNat * 2 ^ (8 * i) : Nat) : Int) = ((b.toNat * 2 ^ (8 * i) : Nat) : Int) := by
      generalize b.toNat * 2 ^ (8 * i) = m at hf
      simp only [IntKind.wrap, IntKind.bits, IntKind.signed]; simp; omega
    rw [hc, or_join .u16 16 (by decide) (fun n h0 h1 => by simp only [IntKind.wrap, IntKind.bits, IntKind.signed]; simp; omega) (8 * i) _ b.toNat hx hf (by omega)]
    have h9 : numN (s.data.toList.take i) + b.toNat * 2 ^ (8 * i) = numN (s.data.toList.take (i + 1)) := by rw [e1, numN_snoc, hl, pow256]
    rw [h9]
    exact hn
theorem get8_loop (s : ByteArray) (hs : s.size ≤ 1) (r : ByteArray) (e : Int) (d : Nat) : ∀ (k i : Nat), i + d = s.size → d < k →
    codec_get_uint8.l0 k ((numN (s.data.toList.take i) : Nat) : Int) s (s.size : Int) (i : Int) r e = some (((numN s.data.toList : Nat) : Int), r, e) := by
  induction d with
  | zero =>
    intro k i hd hk
    obtain ⟨k, rfl⟩ : ∃ m, k = m + 1 := ⟨k - 1, by omega⟩
    simp only [codec_get_uint8.l0]
    rw [if_neg (by omega), List.take_of_length_le (by simp; omega)]
  | succ d ih =>
    intro k i hd hk
    obtain ⟨k, rfl⟩ : ∃ m, k = m + 1 := ⟨k - 1, by omega⟩
    obtain ⟨b, e1, e2⟩ := take_bt s i (by omega)
    have hb := b.toNat_lt
    have hw : wrap64 ((i : Int) + 1) = ((i + 1 : Nat) : Int) := by unfold wrap64; omega
    have hl : (s.data.toList.take i).length = i := by rw [List.length_take]; simp; omega
    have hx := numN_lt (s.data.toList.take i)
    rw [hl, pow256] at hx
    have hf := byte_fits b.toNat i 1 (by omega) (by omega)
    have hn := ih k (i + 1) (by omega) (by omega)
    have hs8 := shl_nat b.toNat i (by omega) (by omega)
    have h8 : 0 ≤ wrap64 (8 * (i : Int)) := by unfold wrap64; omega
    simp only [codec_get_uint8.l0]
    rw [if_pos (by omega), if_pos (by omega), if_pos (by omega), if_pos h8, e2, hs8, hw]
    have hc : ((b.toNat * 2 ^ (8 * i) : Nat) : Int) % 256 = ((b.toNat * 2 ^ (8 * i) : Nat) : Int) := by
      generalize b.toNat * 2 ^ (8 * i) = m at hf
      omega
    rw [hc, or_join .u8 8 (by decide) (fun n h0 h1 => by rw [IntKind.wrap_u8]; omega) (8 * i) _ b.toNat hx hf (by omega)]
    have h9 : numN (s.data.toList.take i) + b.toNat * 2 ^ (8 * i) = numN (s.data.toList.take (i + 1)) := by rw [e1, numN_snoc, hl, pow256]
    rw [h9]
    exact hn
/-! ### a reader, over what is left of a text (none: it was torn) -/
def bs (l : List UInt8) : ByteArray := ⟨l.toArray⟩
theorem bs_size (l : List UInt8) : (bs l).size = l.length := by simp [bs, ByteArray.size]
theorem bs_of (s : ByteArray) : bs s.data.toList = s := by apply ByteArray.ext; simp [bs]
theorem bs_list (l : List UInt8) : (bs l).data.toList = l := by simp [bs]
theorem bs_toList (l : List UInt8) : (bs l).toList = l := by rw [ByteArray.toList_eq]; simp [bs]
theorem bs_extract (l : List UInt8) (a b : Nat) : (bs l).extract a b = bs ((l.take b).drop a) := by
  apply ByteArray.ext
  simp only [bs, ByteArray.data_extract, List.extract_toArray, List.extract_eq_take_drop, List.drop_take]
theorem bs_append (a b : List UInt8) : bs a ++ bs b = bs (a ++ b) := by apply ByteArray.ext; simp [bs, ByteArray.data_append]
def st : Option (List UInt8) → ByteArray × Int
  | some l => (bs l, 0)
  | none => (bs [], 10)
def g (w : Nat) : Option (List UInt8) → Int × Option (List UInt8)
  | some l => if w ≤ l.length then (((numN (l.take w) : Nat) : Int), some (l.drop w)) else (0, none)
  | none => (0, none)
theorem g_yes (w : Nat) (l : List UInt8) (h : w ≤ l.length) : g w (some l) = (((numN (l.take w) : Nat) : Int), some (l.drop w)) := if_pos h
theorem g_no (w : Nat) (l : List UInt8) (h : ¬ w ≤ l.length) : g w (some l) = (0, none) := if_neg h
theorem take_some (l : List UInt8) (w : Nat) (hw : w ≤ 8) (hl : l.length ≤ 100000) (h : w ≤ l.length) : codec_left_take.f (bs l) 0 (w : Int) = some (bs (l.take w), true, bs (l.drop w), 0) := by
  have e : IntKind.u64.wrap (((bs l).size : Int)) = (l.length : Int) := by rw [bs_size]; exact IntWalk.u64_in _ ⟨by omega, by omega⟩
  unfold codec_left_take.f
  rw [if_pos rfl, e, if_neg (by omega), if_pos (by omega), if_pos (by rw [bs_size]; omega), Int.toNat_natCast, bs_extract, bs_extract, List.drop_zero, bs_size, List.take_length]
theorem take_torn (l : List UInt8) (w : Nat) (hl : l.length ≤ 100000) (h : ¬ w ≤ l.length) : codec_left_take.f (bs l) 0 (w : Int) = some (bs [], false, bs [], 10) := by
  have e : IntKind.u64.wrap (((bs l).size : Int)) = (l.length : Int) := by rw [bs_size]; exact IntWalk.u64_in _ ⟨by omega, by omega⟩
  unfold codec_left_take.f codec_left_fail.f
  rw [if_pos rfl, e, if_pos (by omega), if_pos rfl, Option.bind_some]
  rfl
theorem take_none (w : Int) : codec_left_take.f (bs []) 10 w = some (bs [], false, bs [], 10) := by
  unfold codec_left_take.f
  rw [if_neg (by decide)]
  rfl
def small (r : Option (List UInt8)) : Prop := ∀ l, r = some l → l.length ≤ 100000
theorem g_small (w : Nat) (r : Option (List UInt8)) (h : small r) : small (g w r).2 := by
  intro l hl
  cases r with
  | none => simp [g] at hl
  | some l0 =>
    by_cases hw : w ≤ l0.length
    · rw [g_yes w l0 hw] at hl
      simp at hl
      have := h l0 rfl
      rw [← hl, List.length_drop]; omega
    · rw [g_no w l0 hw] at hl
      simp at hl
theorem read64 (r : Option (List UInt8)) (h : small r) (k : Nat) (hk : 20 < k) : codec_Reader_U64.f k (st r).1 (st r).2 = some ((g 8 r).1, (st (g 8 r).2).1, (st (g 8 r).2).2) := by
  have ew : IntKind.u64.wrap (8 : Int) = ((8 : Nat) : Int) := IntWalk.u64_in _ ⟨by decide, by decide⟩
  have z : codec_get_uint64.l0 k 0 (bs []) ((bs []).size : Int) 0 (bs []) 10 = some (0, bs [], 10) := by
    have := get64_loop (bs []) (by decide) (bs []) 10 0 k 0 (by decide) (by omega)
    simpa [bs_list, numN] using this
  unfold codec_Reader_U64.f codec_get_uint64.f
  cases r with
  | none =>
    show ((codec_left_take.f (bs []) 10 _).bind _).bind _ = _
    rw [take_none, Option.bind_some, z, Option.bind_some]
    rfl
  | some l =>
    have hl := h l rfl
    show ((codec_left_take.f (bs l) 0 _).bind _).bind _ = _
    rw [ew]
    by_cases hw : 8 ≤ l.length
    · have hg := g_yes 8 l hw
      rw [take_some l 8 (by decide) hl hw, Option.bind_some, hg]
      have hsz : (bs (l.take 8)).size = 8 := by rw [bs_size, List.length_take]; omega
      have := get64_loop (bs (l.take 8)) (by omega) (bs (l.drop 8)) 0 8 k 0 (by omega) (by omega)
      rw [List.take_zero, bs_list] at this
      rw [show ((0 : Nat) : Int) = 0 from rfl, show numN [] = 0 from rfl, show ((0 : Nat) : Int) = 0 from rfl] at this
      show (codec_get_uint64.l0 k 0 (bs (l.take 8)) ((bs (l.take 8)).size : Int) 0 (bs (l.drop 8)) 0).bind _ = _
      rw [this, Option.bind_some]
      rfl
    · have hg := g_no 8 l hw
      rw [take_torn l 8 hl hw, Option.bind_some, hg]
      show (codec_get_uint64.l0 k 0 (bs []) ((bs []).size : Int) 0 (bs []) 10).bind _ = _
      rw [z, Option.bind_some]
      rfl
theorem read32 (r : Option (List UInt8)) (h : small r) (k : Nat) (hk : 20 < k) : codec_Reader_U32.f k (st r).1 (st r).2 = some ((g 4 r).1, (st (g 4 r).2).1, (st (g 4 r).2).2) := by
  have ew : IntKind.u64.wrap (4 : Int) = ((4 : Nat) : Int) := IntWalk.u64_in _ ⟨by decide, by decide⟩
  have z : codec_get_uint32.l0 k 0 (bs []) ((bs []).size : Int) 0 (bs []) 10 = some (0, bs [], 10) := by
    have := get32_loop (bs []) (by decide) (bs []) 10 0 k 0 (by decide) (by omega)
    simpa [bs_list, numN] using this
  unfold codec_Reader_U32.f codec_get_uint32.f
  cases r with
  | none =>
    show ((codec_left_take.f (bs []) 10 _).bind _).bind _ = _
    rw [take_none, Option.bind_some, z, Option.bind_some]
    rfl
  | some l =>
    have hl := h l rfl
    show ((codec_left_take.f (bs l) 0 _).bind _).bind _ = _
    rw [ew]
    by_cases hw : 4 ≤ l.length
    · have hg := g_yes 4 l hw
      rw [take_some l 4 (by decide) hl hw, Option.bind_some, hg]
      have hsz : (bs (l.take 4)).size = 4 := by rw [bs_size, List.length_take]; omega
      have := get32_loop (bs (l.take 4)) (by omega) (bs (l.drop 4)) 0 4 k 0 (by omega) (by omega)
      rw [List.take_zero, bs_list] at this
      rw [show ((0 : Nat) : Int) = 0 from rfl, show numN [] = 0 from rfl, show ((0 : Nat) : Int) = 0 from rfl] at this
      show (codec_get_uint32.l0 k 0 (bs (l.take 4)) ((bs (l.take 4)).size : Int) 0 (bs (l.drop 4)) 0).bind _ = _
      rw [this, Option.bind_some]
      rfl
    · have hg := g_no 4 l hw
      rw [take_torn l 4 hl hw, Option.bind_some, hg]
      show (codec_get_uint32.l0 k 0 (bs []) ((bs []).size : Int) 0 (bs []) 10).bind _ = _
      rw [z, Option.bind_some]
      rfl
theorem read16 (r : Option (List UInt8)) (h : small r) (k : Nat) (hk : 20 < k) : codec_Reader_U16.f k (st r).1 (st r).2 = some ((g 2 r).1, (st (g 2 r).2).1, (st (g 2 r).2).2) := by
  have ew : IntKind.u64.wrap (2 : Int) = ((2 : Nat) : Int) := IntWalk.u64_in _ ⟨by decide, by decide⟩
  have z : codec_get_uint16.l0 k 0 (bs []) ((bs []).size : Int) 0 (bs []) 10 = some (0, bs [], 10) := by
    have := get16_loop (bs []) (by decide) (bs []) 10 0 k 0 (by decide) (by omega)
    simpa [bs_list, numN] using this
  unfold codec_Reader_U16.f codec_get_uint16.f
  cases r with
  | none =>
    show ((codec_left_take.f (bs []) 10 _).bind _).bind _ = _
    rw [take_none, Option.bind_some, z, Option.bind_some]
    rfl
  | some l =>
    have hl := h l rfl
    show ((codec_left_take.f (bs l) 0 _).bind _).bind _ = _
    rw [ew]
    by_cases hw : 2 ≤ l.length
    · have hg := g_yes 2 l hw
      rw [take_some l 2 (by decide) hl hw, Option.bind_some, hg]
      have hsz : (bs (l.take 2)).size = 2 := by rw [bs_size, List.length_take]; omega
      have := get16_loop (bs (l.take 2)) (by omega) (bs (l.drop 2)) 0 2 k 0 (by omega) (by omega)
      rw [List.take_zero, bs_list] at this
      rw [show ((0 : Nat) : Int) = 0 from rfl, show numN [] = 0 from rfl, show ((0 : Nat) : Int) = 0 from rfl] at this
      show (codec_get_uint16.l0 k 0 (bs (l.take 2)) ((bs (l.take 2)).size : Int) 0 (bs (l.drop 2)) 0).bind _ = _
      rw [this, Option.bind_some]
      rfl
    · have hg := g_no 2 l hw
      rw [take_torn l 2 hl hw, Option.bind_some, hg]
      show (codec_get_uint16.l0 k 0 (bs []) ((bs []).size : Int) 0 (bs []) 10).bind _ = _
      rw [z, Option.bind_some]
      rfl
theorem read8 (r : Option (List UInt8)) (h : small r) (k : Nat) (hk : 20 < k) : codec_Reader_U8.f k (st r).1 (st r).2 = some ((g 1 r).1, (st (g 1 r).2).1, (st (g 1 r).2).2) := by
  have ew : IntKind.u64.wrap (1 : Int) = ((1 : Nat) : Int) := IntWalk.u64_in _ ⟨by decide, by decide⟩
  have z : codec_get_uint8.l0 k 0 (bs []) ((bs []).size : Int) 0 (bs []) 10 = some (0, bs [], 10) := by
    have := get8_loop (bs []) (by decide) (bs []) 10 0 k 0 (by decide) (by omega)
    simpa [bs_list, numN] using this
  unfold codec_Reader_U8.f codec_get_uint8.f
  cases r with
  | none =>
    show ((codec_left_take.f (bs []) 10 _).bind _).bind _ = _
    rw [take_none, Option.bind_some, z, Option.bind_some]
    rfl
  | some l =>
    have hl := h l rfl
    show ((codec_left_take.f (bs l) 0 _).bind _).bind _ = _
    rw [ew]
    by_cases hw : 1 ≤ l.length
    · have hg := g_yes 1 l hw
      rw [take_some l 1 (by decide) hl hw, Option.bind_some, hg]
      have hsz : (bs (l.take 1)).size = 1 := by rw [bs_size, List.length_take]; omega
      have := get8_loop (bs (l.take 1)) (by omega) (bs (l.drop 1)) 0 1 k 0 (by omega) (by omega)
      rw [List.take_zero, bs_list] at this
      rw [show ((0 : Nat) : Int) = 0 from rfl, show numN [] = 0 from rfl, show ((0 : Nat) : Int) = 0 from rfl] at this
      show (codec_get_uint8.l0 k 0 (bs (l.take 1)) ((bs (l.take 1)).size : Int) 0 (bs (l.drop 1)) 0).bind _ = _
      rw [this, Option.bind_some]
      rfl
    · have hg := g_no 1 l hw
      rw [take_torn l 1 hl hw, Option.bind_some, hg]
      show (codec_get_uint8.l0 k 0 (bs []) ((bs []).size : Int) 0 (bs []) 10).bind _ = _
      rw [z, Option.bind_some]
      rfl
/-! ### the next frame -/
def sumOf (l : List UInt8) (n : Nat) : Nat := updN (updN 0 (bs (l.take 2))) (bs ((l.drop 6).take n))
def nextN (l : List UInt8) : List UInt8 × Int × Int :=
  if l.length < 6 then ([], 0, 10)
  else if 4096 < numN (l.take 2) then ([], 0, 3)
  else if (l.drop 6).length < numN (l.take 2) then ([], 0, 10)
  else if sumOf l (numN (l.take 2)) ≠ numN ((l.drop 2).take 4) then ([], 0, 9)
  else ((l.drop 6).take (numN (l.take 2)), ((6 + numN (l.take 2) : Nat) : Int), 0)
theorem next_f (l : List UInt8) (hl : l.length ≤ 100000) (k : Nat) (hk : 100010 < k) : frame_Next.f k (bs l) = some (bs (nextN l).1, (nextN l).2.1, (nextN l).2.2) := by
  unfold frame_Next.f nextN
  rw [bs_size]
  by_cases h6 : l.length < 6
  · rw [if_pos (by omega), if_pos h6]; rfl
  · rw [if_neg (by omega), if_neg h6]
    have r1 := read16 (some l) (fun x hx => by cases hx; exact hl) k (by omega)
    have g1 := g_yes 2 l (by omega)
    rw [g1] at r1
    have r2 := read32 (some (l.drop 2)) (fun x hx => by cases hx; rw [List.length_drop]; omega) k (by omega)
    have g2 := g_yes 4 (l.drop 2) (by rw [List.length_drop]; omega)
    rw [g2] at r2
    have nl : numN (l.take 2) < 65536 := by
      have := numN_lt (l.take 2)
      rw [List.length_take, Nat.min_eq_left (by omega)] at this
      exact this
    have d6 : (l.drop 2).drop 4 = l.drop 6 := by rw [List.drop_drop]
    rw [d6] at r2
    have ew : wrap64 ((numN (l.take 2) : Nat) : Int) = ((numN (l.take 2) : Nat) : Int) := by unfold wrap64; omega
    unfold codec_New.f codec_Reader_Rest.f
    rw [Option.bind_some]
    have r1' : codec_Reader_U16.f k (bs l) 0 = some (((numN (l.take 2) : Nat) : Int), bs (l.drop 2), 0) := r1
    have r2' : codec_Reader_U32.f k (bs (l.drop 2)) 0 = some (((numN ((l.drop 2).take 4) : Nat) : Int), bs (l.drop 6), 0) := r2
    rw [r1', Option.bind_some, r2', Option.bind_some, Option.bind_some]
    show (if wrap64 ((numN (l.take 2) : Nat) : Int) > 4096 then _ else _) = _
    rw [ew]
    by_cases c1 : 4096 < numN (l.take 2)
    · rw [if_pos (by omega), if_pos c1]; rfl
    · rw [if_neg (by omega), if_neg c1, bs_size]
      by_cases c2 : (l.drop 6).length < numN (l.take 2)
      · rw [if_pos (by omega), if_pos c2]; rfl
      · rw [if_neg (by omega), if_neg c2, if_pos (by decide), if_pos (by omega)]
        have e0 : (bs l).extract 0 2 = bs (l.take 2) := by rw [bs_extract, List.drop_zero]
        have e1 : (bs (l.drop 6)).extract 0 (((numN (l.take 2) : Nat) : Int)).toNat = bs ((l.drop 6).take (numN (l.take 2))) := by rw [Int.toNat_natCast, bs_extract, List.drop_zero]
        have sz2 : (bs (l.take 2)).size < k := by rw [bs_size, List.length_take]; omega
        have szn : (bs ((l.drop 6).take (numN (l.take 2)))).size < k := by rw [bs_size, List.length_take]; omega
        have z2 : (bs (l.take 2)).size < 9223372036854775807 := by rw [bs_size, List.length_take]; omega
        have zn : (bs ((l.drop 6).take (numN (l.take 2)))).size < 9223372036854775807 := by rw [bs_size, List.length_take]; omega
        rw [e0, sum_f _ z2 k sz2, Option.bind_some, if_pos (by omega), if_pos (by omega), e1, update_f _ (updN_lt 0 _ (by decide)) _ zn k szn, Option.bind_some]
        by_cases c3 : sumOf l (numN (l.take 2)) ≠ numN ((l.drop 2).take 4)
        · rw [if_neg (by intro h; exact c3 (Int.ofNat.inj h)), if_pos c3]; rfl
        · have c4 : updN (updN 0 (bs (l.take 2))) (bs ((l.drop 6).take (numN (l.take 2)))) = numN ((l.drop 2).take 4) := Decidable.not_not.1 c3
          rw [if_pos (by rw [c4]), if_neg c3]
          rw [show wrap64 (6 + ((numN (l.take 2) : Nat) : Int)) = ((6 + numN (l.take 2) : Nat) : Int) by unfold wrap64; omega]
/-! ### numbers back -/
def enc (xs : List Int) : List UInt8 := xs.map fun n => UInt8.ofNat n.toNat
theorem str_bs (xs : List Int) : strOfNums xs = bs (enc xs) := rfl
theorem enc_append (a b : List Int) : enc (a ++ b) = enc a ++ enc b := List.map_append
theorem enc_len (a : List Int) : (enc a).length = a.length := List.length_map _
theorem leN (n w : Nat) : Wr.leBytes (n : Int) (w + 1) = ((n % 256 : Nat) : Int) :: Wr.leBytes ((n / 256 : Nat) : Int) w := by
  unfold Wr.leBytes
  rw [List.range_succ_eq_map, List.map_cons, List.map_map]
  congr 1
  · unfold Wr.byteAt; simp
  · apply List.map_congr_left
    intro i _
    show Wr.byteAt (n : Int) (i + 1) = Wr.byteAt ((n / 256 : Nat) : Int) i
    unfold Wr.byteAt
    have : ((n / 256 : Nat) : Int) = (n : Int) / 256 := by omega
    rw [this, Int.ediv_ediv_of_nonneg (by decide)]
    have e : (256 : Int) * 2 ^ (8 * i) = 2 ^ (8 * (i + 1)) := by rw [Nat.mul_add, Int.pow_add, Int.mul_comm]; rfl
    rw [e]
theorem num_le (w : Nat) : ∀ n : Nat, n < 256 ^ w → numN (enc (Wr.leBytes (n : Int) w)) = n := by
  induction w with
  | zero => intro n h; simp [Wr.leBytes, enc, numN] at *; omega
  | succ w ih =>
    intro n h
    rw [leN]
    show (UInt8.ofNat ((n % 256 : Nat) : Int).toNat).toNat + 256 * numN (enc (Wr.leBytes ((n / 256 : Nat) : Int) w)) = n
    rw [ih (n / 256) (by rw [Nat.pow_succ] at h; omega), Int.toNat_natCast]
    have : (UInt8.ofNat (n % 256)).toNat = n % 256 := by simp
    rw [this]; omega
theorem le_num (l : List UInt8) : enc (Wr.leBytes ((numN l : Nat) : Int) l.length) = l := by
  induction l with
  | nil => rfl
  | cons b l ih =>
    have hb := b.toNat_lt
    rw [List.length_cons, leN]
    have e1 : numN (b :: l) % 256 = b.toNat := by simp only [numN]; omega
    have e2 : numN (b :: l) / 256 = numN l := by simp only [numN]; omega
    rw [e1, e2]
    show UInt8.ofNat ((b.toNat : Nat) : Int).toNat :: enc (Wr.leBytes ((numN l : Nat) : Int) l.length) = b :: l
    rw [ih, Int.toNat_natCast]
    congr 1
    simp
/-! ### a manifest, read -/
def parts : Nat → Option (List UInt8) → List S78 × Option (List UInt8)
  | 0, r => ([], r)
  | n + 1, r => (⟨(g 8 r).1, (g 8 (g 8 r).2).1⟩ :: (parts n (g 8 (g 8 r).2).2).1, (parts n (g 8 (g 8 r).2).2).2)
def words : Nat → Option (List UInt8) → List Int × Option (List UInt8)
  | 0, r => ([], r)
  | n + 1, r => ((g 8 r).1 :: (words n (g 8 r).2).1, (words n (g 8 r).2).2)
theorem parts_small (n : Nat) : ∀ r, small r → small (parts n r).2 := by
  induction n with
  | zero => exact fun r h => h
  | succ n ih => exact fun r h => ih _ (g_small 8 _ (g_small 8 _ h))
theorem parts_len (n : Nat) : ∀ r, (parts n r).1.length = n := by
  induction n with
  | zero => exact fun r => rfl
  | succ n ih => intro r; simp [parts, ih]
theorem words_len (n : Nat) : ∀ r, (words n r).1.length = n := by
  induction n with
  | zero => exact fun r => rfl
  | succ n ih => intro r; simp [words, ih]
theorem take_l0 (x0 : ByteArray) (x5 e pl : Int) (cnt : Nat) (hc : cnt ≤ 13) (d : Nat) : ∀ (k i : Nat) (r : Option (List UInt8)) (acc : List S78), i + d = cnt → small r → acc.length + d ≤ 100 → 20 < k →
    manifest_Take.l0 (k + d) x0 x5 (cnt : Int) (i : Int) (st r).1 (st r).2 e pl acc = manifest_Take.l0 k x0 x5 (cnt : Int) (cnt : Int) (st (parts d r).2).1 (st (parts d r).2).2 e pl (acc ++ (parts d r).1) := by
  induction d with
  | zero =>
    intro k i r acc hd hr ha hk
    have : i = cnt := by omega
    subst this
    simp [parts]
  | succ d ih =>
    intro k i r acc hd hr ha hk
    have hw : ((i : Int) + 1) % 256 = ((i + 1 : Nat) : Int) := by omega
    rw [show k + (d + 1) = (k + d) + 1 by omega]
    conv => lhs; simp only [manifest_Take.l0]
    rw [if_pos (by omega), read64 r hr (k + d) (by omega), Option.bind_some]
    show ((codec_Reader_U64.f (k + d) (st (g 8 r).2).1 (st (g 8 r).2).2).bind _) = _
    rw [read64 _ (g_small 8 r hr) (k + d) (by omega), Option.bind_some, if_pos (by omega), hw]
    have := ih k (i + 1) (g 8 (g 8 r).2).2 (acc ++ [(⟨(g 8 r).1, (g 8 (g 8 r).2).1⟩ : S78)]) (by omega) (g_small 8 _ (g_small 8 _ hr)) (by simp; omega) hk
    rw [this]
    simp [parts]
theorem take_l1 (x0 : ByteArray) (x5 e pl : Int) (l2 : List S78) (cnt : Nat) (hc : cnt ≤ 3) (d : Nat) : ∀ (k i : Nat) (r : Option (List UInt8)) (acc : List Int), i + d = cnt → small r → acc.length + d ≤ 100 → 20 < k →
    manifest_Take.l1 (k + d) x0 x5 (cnt : Int) (i : Int) (st r).1 (st r).2 e pl l2 acc = manifest_Take.l1 k x0 x5 (cnt : Int) (cnt : Int) (st (words d r).2).1 (st (words d r).2).2 e pl l2 (acc ++ (words d r).1) := by
  induction d with
  | zero =>
    intro k i r acc hd hr ha hk
    have : i = cnt := by omega
    subst this
    simp [words]
  | succ d ih =>
    intro k i r acc hd hr ha hk
    have hw : ((i : Int) + 1) % 256 = ((i + 1 : Nat) : Int) := by omega
    rw [show k + (d + 1) = (k + d) + 1 by omega]
    conv => lhs; simp only [manifest_Take.l1]
    rw [if_pos (by omega), read64 r hr (k + d) (by omega), Option.bind_some, if_pos (by omega), hw]
    have := ih k (i + 1) (g 8 r).2 (acc ++ [(g 8 r).1]) (by omega) (g_small 8 _ hr) (by simp; omega) hk
    show manifest_Take.l1 (k + d) x0 x5 (cnt : Int) ((i + 1 : Nat) : Int) (st (g 8 r).2).1 (st (g 8 r).2).2 e pl l2 (acc ++ [(g 8 r).1]) = _
    rw [this]
    simp [words]
/-- What a payload tells: the fields, and what is left. -/
structure Told where
  e : Int
  pl : Int
  l2 : List S78
  l3 : List Int
  left : Option (List UInt8)
def lim (m : Nat) (n : Int) : Nat := min n.toNat m
def tell (p : List UInt8) : Told :=
  ⟨(g 8 (some p)).1, (g 1 (g 8 (some p)).2).1, (parts (lim 13 (g 1 (g 1 (g 8 (some p)).2).2).1) (g 1 (g 1 (g 8 (some p)).2).2).2).1, (words (lim 3 (g 1 (parts (lim 13 (g 1 (g 1 (g 8 (some p)).2).2).1) (g 1 (g 1 (g 8 (some p)).2).2).2).2).1) (g 1 (parts (lim 13 (g 1 (g 1 (g 8 (some p)).2).2).1) (g 1 (g 1 (g 8 (some p)).2).2).2).2).2).1, (words (lim 3 (g 1 (parts (lim 13 (g 1 (g 1 (g 8 (some p)).2).2).1) (g 1 (g 1 (g 8 (some p)).2).2).2).2).1) (g 1 (parts (lim 13 (g 1 (g 1 (g 8 (some p)).2).2).1) (g 1 (g 1 (g 8 (some p)).2).2).2).2).2).2⟩
/-- P17.1: a text's manifest. -/
def takeN (l : List UInt8) : Int × Int × List S78 × List Int × Int :=
  if (nextN l).2.2 = 0 then
    if (nextN l).2.1 = (l.length : Int) ∧ (tell (nextN l).1).left = some [] ∧ okB (tell (nextN l).1).e (tell (nextN l).1).pl (tell (nextN l).1).l2 (tell (nextN l).1).l3 = true then
      ((tell (nextN l).1).e, (tell (nextN l).1).pl, (tell (nextN l).1).l2, (tell (nextN l).1).l3, 0)
    else (0, 0, [], [], 4)
  else (0, 0, [], [], (nextN l).2.2)
theorem g_nonneg (w : Nat) (r : Option (List UInt8)) : 0 ≤ (g w r).1 := by
  cases r with
  | none => simp [g]
  | some l => by_cases h : w ≤ l.length
              · rw [g_yes w l h]; simp
              · rw [g_no w l h]; simp
theorem lim_mn (m : Nat) (n : Int) (h : 0 ≤ n) : mn n (m : Int) = ((lim m n : Nat) : Int) := by
  unfold mn lim
  split <;> omega
theorem next_small (l : List UInt8) (hl : l.length ≤ 100000) : (nextN l).1.length ≤ 100000 := by
  unfold nextN
  split
  · simp
  · split
    · simp
    · split
      · simp
      · split
        · simp
        · simp; omega
theorem take_f (l : List UInt8) (hl : l.length ≤ 100000) (k : Nat) (hk : 101000 < k) : manifest_Take.f k (bs l) = some (takeN l) := by
  unfold manifest_Take.f takeN
  rw [next_f l hl k (by omega), Option.bind_some]
  by_cases h0 : (nextN l).2.2 = 0
  · rw [if_pos h0, if_pos h0]
    have hs := next_small l hl
    generalize (nextN l).1 = p at hs ⊢
    generalize (nextN l).2.1 = used
    unfold codec_New.f
    rw [Option.bind_some]
    have sp : small (some p) := fun x hx => by cases hx; exact hs
    have q1 := read64 (some p) sp k (by omega)
    have s1 := g_small 8 _ sp
    have q2 := read8 (g 8 (some p)).2 s1 k (by omega)
    have s2 := g_small 1 _ s1
    have q3 := read8 (g 1 (g 8 (some p)).2).2 s2 k (by omega)
    have s3 := g_small 1 _ s2
    have q1' : codec_Reader_U64.f k (bs p) 0 = _ := q1
    rw [q1', Option.bind_some]
    show ((codec_Reader_U8.f k (st (g 8 (some p)).2).1 (st (g 8 (some p)).2).2).bind _) = _
    rw [q2, Option.bind_some]
    show ((codec_Reader_U8.f k (st (g 1 (g 8 (some p)).2).2).1 (st (g 1 (g 8 (some p)).2).2).2).bind _) = _
    rw [q3, Option.bind_some]
    unfold tell
    dsimp only
    generalize he : (g 8 (some p)).1 = e
    generalize hpl : (g 1 (g 8 (some p)).2).1 = pl
    have hn := g_nonneg 1 (g 1 (g 8 (some p)).2).2
    generalize (g 1 (g 1 (g 8 (some p)).2).2).1 = c at hn ⊢
    generalize (g 1 (g 1 (g 8 (some p)).2).2).2 = r at s3 ⊢
    show manifest_Take.l0 k (bs l) used (mn c 13) 0 (st r).1 (st r).2 e pl [] = _
    have hm := lim_mn 13 c hn
    rw [show ((13 : Nat) : Int) = 13 from rfl] at hm
    have hlim : lim 13 c ≤ 13 := Nat.min_le_right _ _
    rw [hm]
    generalize lim 13 c = cnt at hlim ⊢
    obtain ⟨k1, rfl⟩ : ∃ m, k = (m + 1) + cnt := ⟨k - 1 - cnt, by omega⟩
    have L0 := take_l0 (bs l) used e pl cnt hlim cnt (k1 + 1) 0 r [] (by omega) s3 (by simp; omega) (by omega)
    rw [show ((0 : Nat) : Int) = 0 from rfl, List.nil_append] at L0
    rw [L0]
    have s4 := parts_small cnt r s3
    generalize (parts cnt r).1 = l2
    generalize (parts cnt r).2 = r2 at s4 ⊢
    conv => lhs; simp only [manifest_Take.l0]
    rw [if_neg (by omega), read8 r2 s4 k1 (by omega), Option.bind_some]
    have s5 := g_small 1 _ s4
    have hn2 := g_nonneg 1 r2
    generalize (g 1 r2).1 = d at hn2 ⊢
    generalize (g 1 r2).2 = r3 at s5 ⊢
    show manifest_Take.l1 k1 (bs l) used (mn d 3) 0 (st r3).1 (st r3).2 e pl l2 [] = _
    have hm2 := lim_mn 3 d hn2
    rw [show ((3 : Nat) : Int) = 3 from rfl] at hm2
    have hlim2 : lim 3 d ≤ 3 := Nat.min_le_right _ _
    rw [hm2]
    generalize lim 3 d = cnt2 at hlim2 ⊢
    obtain ⟨k2, rfl⟩ : ∃ m, k1 = (m + 1) + cnt2 := ⟨k1 - 1 - cnt2, by omega⟩
    have L1 := take_l1 (bs l) used e pl l2 cnt2 hlim2 cnt2 (k2 + 1) 0 r3 [] (by omega) s5 (by simp; omega) (by omega)
    rw [show ((0 : Nat) : Int) = 0 from rfl, List.nil_append] at L1
    rw [L1]
    generalize (words cnt2 r3).1 = l3
    generalize (words cnt2 r3).2 = r4
    conv => lhs; simp only [manifest_Take.l1]
    rw [if_neg (by omega), bs_size]
    unfold codec_Reader_Err.f codec_Reader_Rest.f
    by_cases u1 : used = (l.length : Int)
    · rw [if_pos u1, Option.bind_some]
      cases r4 with
      | none =>
        rw [if_neg (by decide), if_neg (by simp)]
      | some rest =>
        show (if (0 : Int) = 0 then _ else _) = _
        rw [if_pos rfl, Option.bind_some]
        show (if (bs rest).toList = [] then _ else _) = _
        rw [bs_toList]
        by_cases u2 : rest = []
        · subst u2
          rw [if_pos rfl, check_f e pl l2 l3 k2 (by omega), Option.bind_some]
          by_cases u3 : okB e pl l2 l3 = true
          · rw [if_pos u3, if_pos rfl, if_pos ⟨u1, rfl, u3⟩]
          · rw [if_neg u3, if_neg (by decide), if_neg (fun h => u3 h.2.2)]
        · rw [if_neg u2, if_neg (fun h => u2 (by simpa using h.2.1))]
    · rw [if_neg u1, if_neg (fun h => u1 h.1)]
  · rw [if_neg h0, if_neg h0]
end Go.Proofs.YtnhjhaphfdlkfaaDoor.PT
