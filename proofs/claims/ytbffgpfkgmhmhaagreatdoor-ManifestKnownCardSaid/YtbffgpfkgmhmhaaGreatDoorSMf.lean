/- Plain laws on the printed functions of reading: numbers, frames, manifests. -/
import Derived.Test.YtbffgpfkgmhmhaaGreatDoorSMe
import Derived.Test.YtbffgpfkgmhmhaaGreatDoorSMb
import Derived.Test.YtbffgpfkgmhmhaaGreatDoorSMd
import Derived.Test.YtbffgpfkgmhmhaaGreatDoorSMc
import Derived.WalkMore
set_option linter.unusedVariables false
namespace Go.Proofs.YtbffgpfkgmhmhaaGreatDoor.PT
open Go.RowKit Go.Proofs.YtbffgpfkgmhmhaaGreatDoor.HM Go.Proofs.YtbffgpfkgmhmhaaGreatDoorW.PrintWords Go.Proofs.YtbffgpfkgmhmhaaGreatDoorW.PrintLast Go.Proofs.YtbffgpfkgmhmhaaGreatDoorW.PrintMore
open Go.Proofs.YtbffgpfkgmhmhaaGreatDoor.PB Go.Proofs.YtbffgpfkgmhmhaaGreatDoor.PM
/-- A number, the lowest byte first. -/
def numN : List UInt8 → Nat
  | [] => 0
  | b :: l => b.toNat + 256 * numN l
theorem numN_lt (l : List UInt8) : numN l < 256 ^ l.length := by
  induction l with
  | nil => decide
  | cons b l ih =>
    have := b.toNat_lt
    simp only [numN, List.length_cons, Nat.pow_succ]
    omega
theorem numN_snoc (l : List UInt8) (b : UInt8) : numN (l ++ [b]) = numN l + b.toNat * 256 ^ l.length := by
  induction l with
  | nil => simp [numN]
  | cons a l ih =>
    simp only [List.cons_append, numN, ih, List.length_cons, Nat.pow_succ, Nat.mul_add]
    rw [Nat.mul_comm 256 (b.toNat * 256 ^ l.length), Nat.mul_assoc]
    omega
theorem pow256 (i : Nat) : 256 ^ i = 2 ^ (8 * i) := by rw [Nat.pow_mul]
theorem or_comm_bits (k : IntKind) (x y : Int) : Go.bits .or k x y = Go.bits .or k y x := by
  unfold Go.bits
  simp only [BitVec.or_comm]
theorem or_join (k : IntKind) (j : Nat) (hj : j ≤ k.bits) (hk : ∀ n : Int, 0 ≤ n → n < 2 ^ j → k.wrap n = n) (i x b : Nat) (hx : x < 2 ^ i) (hb : b * 2 ^ i < 2 ^ j) (hij : i ≤ j) :
    Go.bits .or k (x : Int) ((b * 2 ^ i : Nat) : Int) = ((x + b * 2 ^ i : Nat) : Int) := by
  have p : (2 : Nat) ^ i ≤ 2 ^ j := Nat.pow_le_pow_right (by decide) hij
  rw [or_comm_bits, bits_join k j hj hk i]
  · omega
  · omega
  · have : b * 2 ^ i % 2 ^ i = 0 := Nat.mul_mod_left _ _
    exact_mod_cast this
  · exact_mod_cast hb
  · omega
  · exact_mod_cast hx
  · exact_mod_cast (Nat.lt_of_lt_of_le hx p)
theorem shl_nat (b i : Nat) (hb : b < 256) (hi : i < 8) : shl .u64 (IntKind.u64.wrap (b : Int)) (wrap64 (8 * (i : Int))) = ((b * 2 ^ (8 * i) : Nat) : Int) := by
  have e1 : IntKind.u64.wrap (b : Int) = (b : Int) := IntWalk.u64_in _ ⟨by omega, by omega⟩
  have e2 : wrap64 (8 * (i : Int)) = ((8 * i : Nat) : Int) := by unfold wrap64; omega
  rw [e1, e2]
  unfold shl
  rw [Int.toNat_natCast, show min (8 * i) IntKind.u64.bits = 8 * i by show min (8 * i) 64 = 8 * i; omega]
  have e3 : (b : Int) * 2 ^ (8 * i) = ((b * 2 ^ (8 * i) : Nat) : Int) := by simp
  rw [e3]
  have h1 : b * 2 ^ (8 * i) < 256 * 2 ^ (8 * i) := Nat.mul_lt_mul_of_pos_right hb (Nat.two_pow_pos _)
  have h2 : 256 * 2 ^ (8 * i) ≤ 2 ^ 64 := by
    have : 256 * 2 ^ (8 * i) = 2 ^ (8 + 8 * i) := by rw [Nat.pow_add]
    rw [this]; exact Nat.pow_le_pow_right (by decide) (by omega)
  have h3 : b * 2 ^ (8 * i) < 2 ^ 64 := Nat.lt_of_lt_of_le h1 h2
  generalize b * 2 ^ (8 * i) = m at h3
  exact IntWalk.u64_in _ ⟨by omega, by omega⟩
theorem byte_fits (b i w : Nat) (hb : b < 256) (hi : i < w) : b * 2 ^ (8 * i) < 2 ^ (8 * w) := by
  have h1 : b * 2 ^ (8 * i) < 256 * 2 ^ (8 * i) := Nat.mul_lt_mul_of_pos_right hb (Nat.two_pow_pos _)
  have h2 : 256 * 2 ^ (8 * i) = 2 ^ (8 * (i + 1)) := by rw [Nat.mul_add, Nat.pow_add, Nat.mul_comm]
  have h3 : (2 : Nat) ^ (8 * (i + 1)) ≤ 2 ^ (8 * w) := Nat.pow_le_pow_right (by decide) (by omega)
  omega
theorem take_bt (s : ByteArray) (i : Nat) (h : i < s.size) : ∃ b : UInt8, s.data.toList.take (i + 1) = s.data.toList.take i ++ [b] ∧ bt s (i : Int) = (b.toNat : Int) :=
  ⟨s.data.toList[i]'(by simpa using h), List.take_succ_eq_append_getElem (by simpa using h), bt_nat s i h⟩
theorem get64_loop (s : ByteArray) (hs : s.size ≤ 8) (r : ByteArray) (e : Int) (d : Nat) : ∀ (k i : Nat), i + d = s.size → d < k →
    codec_get_uint64.l0 k ((numN (s.data.toList.take i) : Nat) : Int) s (s.size : Int) (i : Int) r e = some (((numN s.data.toList : Nat) : Int), r, e) := by
  induction d with
  | zero =>
    intro k i hd hk
    obtain ⟨k, rfl⟩ : ∃ m, k = m + 1 := ⟨k - 1, by omega⟩
    simp only [codec_get_uint64.l0]
    rw [if_neg (by omega), List.take_of_length_le (by simp; omega)]
  | succ d ih =>
    intro k i hd hk
    obtain ⟨k, rfl⟩ : ∃ m, k = m + 1 := ⟨k - 1, by omega⟩
    obtain ⟨b, e1, e2⟩ := take_bt s i (by omega)
    have hb := b.toNat_lt
    have hw : wrap64 ((i : Int) + 1) = ((i + 1 : Nat) : Int) := by unfold wrap64; omega
    have hl : (s.data.toList.take i).length = i := by rw [List.length_take]; simp; omega
    have hx := numN_lt (s.data.toList.take i)
    rw [hl, pow256] at hx
    have hf := byte_fits b.toNat i 8 (by omega) (by omega)
    have hn := ih k (i + 1) (by omega) (by omega)
    have hs8 := shl_nat b.toNat i (by omega) (by omega)
    have h8 : 0 ≤ wrap64 (8 * (i : Int)) := by unfold wrap64; omega
    simp only [codec_get_uint64.l0]
    rw [if_pos (by omega), if_pos (by omega), if_pos (by omega), if_pos h8, e2, hs8, hw]
    have hc : ((b.toNat * 2 ^ (8 * i) : Nat) : Int) = ((b.toNat * 2 ^ (8 * i) : Nat) : Int) := by
      generalize b.toNat * 2 ^ (8 * i) = m at hf
      rfl
    rw [or_join .u64 64 (by decide) (fun n h0 h1 => by exact IntWalk.u64_in _ ⟨h0, by omega⟩) (8 * i) _ b.toNat hx hf (by omega)]
    have h9 : numN (s.data.toList.take i) + b.toNat * 2 ^ (8 * i) = numN (s.data.toList.take (i + 1)) := by rw [e1, numN_snoc, hl, pow256]
    rw [h9]
    exact hn
theorem get32_loop (s : ByteArray) (hs : s.size ≤ 4) (r : ByteArray) (e : Int) (d : Nat) : ∀ (k i : Nat), i + d = s.size → d < k →
    codec_get_uint32.l0 k ((numN (s.data.toList.take i) : Nat) : Int) s (s.size : Int) (i : Int) r e = some (((numN s.data.toList : Nat) : Int), r, e) := by
  induction d with
  | zero =>
    intro k i hd hk
    obtain ⟨k, rfl⟩ : ∃ m, k = m + 1 := ⟨k - 1, by omega⟩
    simp only [codec_get_uint32.l0]
    rw [if_neg (by omega), List.take_of_length_le (by simp; omega)]
  | succ d ih =>
    intro k i hd hk
    obtain ⟨k, rfl⟩ : ∃ m, k = m + 1 := ⟨k - 1, by omega⟩
    obtain ⟨b, e1, e2⟩ := take_bt s i (by omega)
    have hb := b.toNat_lt
    have hw : wrap64 ((i : Int) + 1) = ((i + 1 : Nat) : Int) := by unfold wrap64; omega
    have hl : (s.data.toList.take i).length = i := by rw [List.length_take]; simp; omega
    have hx := numN_lt (s.data.toList.take i)
    rw [hl, pow256] at hx
    have hf := byte_fits b.toNat i 4 (by omega) (by omega)
    have hn := ih k (i + 1) (by omega) (by omega)
    have hs8 := shl_nat b.toNat i (by omega) (by omega)
    have h8 : 0 ≤ wrap64 (8 * (i : Int)) := by unfold wrap64; omega
    simp only [codec_get_uint32.l0]
    rw [if_pos (by omega), if_pos (by omega), if_pos (by omega), if_pos h8, e2, hs8, hw]
    have hc : ((b.toNat * 2 ^ (8 * i) : Nat) : Int) % 4294967296 = ((b.toNat * 2 ^ (8 * i) : Nat) : Int) := by
      generalize b.toNat * 2 ^ (8 * i) = m at hf
      omega
    rw [hc, or_join .u32 32 (by decide) (fun n h0 h1 => by rw [IntKind.wrap_u32]; omega) (8 * i) _ b.toNat hx hf (by omega)]
    have h9 : numN (s.data.toList.take i) + b.toNat * 2 ^ (8 * i) = numN (s.data.toList.take (i + 1)) := by rw [e1, numN_snoc, hl, pow256]
    rw [h9]
    exact hn
theorem get16_loop (s : ByteArray) (hs : s.size ≤ 2) (r : ByteArray) (e : Int) (d : Nat) : ∀ (k i : Nat), i + d = s.size → d < k →
    codec_get_uint16.l0 k ((numN (s.data.toList.take i) : Nat) : Int) s (s.size : Int) (i : Int) r e = some (((numN s.data.toList : Nat) : Int), r, e) := by
  induction d with
  | zero =>
    intro k i hd hk
    obtain ⟨k, rfl⟩ : ∃ m, k = m + 1 := ⟨k - 1, by omega⟩
    simp only [codec_get_uint16.l0]
    rw [if_neg (by omega), List.take_of_length_le (by simp; omega)]
  | succ d ih =>
    intro k i hd hk
    obtain ⟨k, rfl⟩ : ∃ m, k = m + 1 := ⟨k - 1, by omega⟩
    obtain ⟨b, e1, e2⟩ := take_bt s i (by omega)
    have hb := b.toNat_lt
    have hw : wrap64 ((i : Int) + 1) = ((i + 1 : Nat) : Int) := by unfold wrap64; omega
    have hl : (s.data.toList.take i).length = i := by rw [List.length_take]; simp; omega
    have hx := numN_lt (s.data.toList.take i)
    rw [hl, pow256] at hx
    have hf := byte_fits b.toNat i 2 (by omega) (by omega)
    have hn := ih k (i + 1) (by omega) (by omega)
    have hs8 := shl_nat b.toNat i (by omega) (by omega)
    have h8 : 0 ≤ wrap64 (8 * (i : Int)) := by unfold wrap64; omega
    simp only [codec_get_uint16.l0]
    rw [if_pos (by omega), if_pos (by omega), if_pos (by omega), if_pos h8, e2, hs8, hw]
    have hc : IntKind.u16.wrap ((b.toNat * 2 ^ (8 * i) : Nat) : Int) = ((b.toNat * 2 ^ (8 * i) : Nat) : Int) := by
      generalize b.toNat * 2 ^ (8 * i) = m at hf
      simp only [IntKind.wrap, IntKind.bits, IntKind.signed]; simp; omega
    rw [hc, or_join .u16 16 (by decide) (fun n h0 h1 => by simp only [IntKind.wrap, IntKind.bits, IntKind.signed]; simp; omega) (8 * i) _ b.toNat hx hf (by omega)]
    have h9 : numN (s.data.toList.take i) + b.toNat * 2 ^ (8 * i) = numN (s.data.toList.take (i + 1)) := by rw [e1, numN_snoc, hl, pow256]
    rw [h9]
    exact hn
theorem get8_loop (s : ByteArray) (hs : s.size ≤ 1) (r : ByteArray) (e : Int) (d : Nat) : ∀ (k i : Nat), i + d = s.size → d < k →
    codec_get_uint8.l0 k ((numN (s.data.toList.take i) : Nat) : Int) s (s.size : Int) (i : Int) r e = some (((numN s.data.toList : Nat) : Int), r, e) := by
  induction d with
  | zero =>
    intro k i hd hk
    obtain ⟨k, rfl⟩ : ∃ m, k = m + 1 := ⟨k - 1, by omega⟩
    simp only [codec_get_uint8.l0]
    rw [if_neg (by omega), List.take_of_length_le (by simp; omega)]
  | succ d ih =>
    intro k i hd hk
    obtain ⟨k, rfl⟩ : ∃ m, k = m + 1 := ⟨k - 1, by omega⟩
    obtain ⟨b, e1, e2⟩ := take_bt s i (by omega)
    have hb := b.toNat_lt
    have hw : wrap64 ((i : Int) + 1) = ((i + 1 : Nat) : Int) := by unfold wrap64; omega
    have hl : (s.data.toList.take i).length = i := by rw [List.length_take]; simp; omega
    have hx := numN_lt (s.data.toList.take i)
    rw [hl, pow256] at hx
    have hf := byte_fits b.toNat i 1 (by omega) (by omega)
    have hn := ih k (i + 1) (by omega) (by omega)
    have hs8 := shl_nat b.toNat i (by omega) (by omega)
    have h8 : 0 ≤ wrap64 (8 * (i : Int)) := by unfold wrap64; omega
    simp only [codec_get_uint8.l0]
    rw [if_pos (by omega), if_pos (by omega), if_pos (by omega), if_pos h8, e2, hs8, hw]
    have hc : ((b.toNat * 2 ^ (8 * i) : Nat) : Int) % 256 = ((b.toNat * 2 ^ (8 * i) : Nat) : Int) := by
      generalize b.toNat * 2 ^ (8 * i) = m at hf
      omega
    rw [hc, or_join .u8 8 (by decide) (fun n h0 h1 => by rw [IntKind.wrap_u8]; omega) (8 * i) _ b.toNat hx hf (by omega)]
    have h9 : numN (s.data.toList.take i) + b.toNat * 2 ^ (8 * i) = numN (s.data.toList.take (i + 1)) := by rw [e1, numN_snoc, hl, pow256]
    rw [h9]
    exact hn
/-! ### a reader, over what is left of a text (none: it was torn) -/
def bs (l : List UInt8) : ByteArray := ⟨l.toArray⟩
theorem bs_size (l : List UInt8) : (bs l).size = l.length := by simp [bs, ByteArray.size]
theorem bs_list (l : List UInt8) : (bs l).data.toList = l := by simp [bs]
theorem bs_toList (l : List UInt8) : (bs l).toList = l := by rw [ByteArray.toList_eq]; simp [bs]
theorem bs_extract (l : List UInt8) (a b : Nat) : (bs l).extract a b = bs ((l.take b).drop a) := by
  apply ByteArray.ext
  simp only [bs, ByteArray.data_extract, List.extract_toArray, List.extract_eq_take_drop, List.drop_take]
theorem bs_append (a b : List UInt8) : bs a ++ bs b = bs (a ++ b) := by apply ByteArray.ext; simp [bs, ByteArray.data_append]
def st : Option (List UInt8) → ByteArray × Int
  | some l => (bs l, 0)
  | none => (bs [], 10)
def g (w : Nat) : Option (List UInt8) → Int × Option (List UInt8)
  | some l => if w ≤ l.length then (((numN (l.take w) : Nat) : Int), some (l.drop w)) else (0, none)
  | none => (0, none)
theorem g_yes (w : Nat) (l : List UInt8) (h : w ≤ l.length) : g w (some l) = (((numN (l.take w) : Nat) : Int), some (l.drop w)) := if_pos h
theorem g_no (w : Nat) (l : List UInt8) (h : ¬ w ≤ l.length) : g w (some l) = (0, none) := if_neg h
theorem take_some (l : List UInt8) (w : Nat) (hw : w ≤ 8) (hl : l.length ≤ 100000) (h : w ≤ l.length) : codec_left_take.f (bs l) 0 (w : Int) = some (bs (l.take w), true, bs (l.drop w), 0) := by
  have e : IntKind.u64.wrap (((bs l).size : Int)) = (l.length : Int) := by rw [bs_size]; exact IntWalk.u64_in _ ⟨by omega, by omega⟩
  unfold codec_left_take.f
  rw [if_pos rfl, e, if_neg (by omega), if_pos (by omega), if_pos (by rw [bs_size]; omega), Int.toNat_natCast, bs_extract, bs_extract, List.drop_zero, bs_size, List.take_length]
theorem take_torn (l : List UInt8) (w : Nat) (hl : l.length ≤ 100000) (h : ¬ w ≤ l.length) : codec_left_take.f (bs l) 0 (w : Int) = some (bs [], false, bs [], 10) := by
  have e : IntKind.u64.wrap (((bs l).size : Int)) = (l.length : Int) := by rw [bs_size]; exact IntWalk.u64_in _ ⟨by omega, by omega⟩
  unfold codec_left_take.f codec_left_fail.f
  rw [if_pos rfl, e, if_pos (by omega), if_pos rfl, Option.bind_some]
  rfl
theorem take_none (w : Int) : codec_left_take.f (bs []) 10 w = some (bs [], false, bs [], 10) := by
  unfold codec_left_take.f
  rw [if_neg (by decide)]
  rfl
def small (r : Option (List UInt8)) : Prop := ∀ l, r = some l → l.length ≤ 100000
theorem g_small (w : Nat) (r : Option (List UInt8)) (h : small r) : small (g w r).2 := by
  intro l hl
  cases r with
  | none => simp [g] at hl
  | some l0 =>
    by_cases hw : w ≤ l0.length
    · rw [g_yes w l0 hw] at hl
      simp at hl
      have := h l0 rfl
      rw [← hl, List.length_drop]; omega
    · rw [g_no w l0 hw] at hl
      simp at hl
theorem read64 (r : Option (List UInt8)) (h : small r) (k : Nat) (hk : 20 < k) : codec_Reader_U64.f k (st r).1 (st r).2 = some ((g 8 r).1, (st (g 8 r).2).1, (st (g 8 r).2).2) := by
  have ew : IntKind.u64.wrap (8 : Int) = ((8 : Nat) : Int) := IntWalk.u64_in _ ⟨by decide, by decide⟩
  have z : codec_get_uint64.l0 k 0 (bs []) ((bs []).size : Int) 0 (bs []) 10 = some (0, bs [], 10) := by
    have := get64_loop (bs []) (by decide) (bs []) 10 0 k 0 (by decide) (by omega)
    simpa [bs_list, numN] using this
  unfold codec_Reader_U64.f codec_get_uint64.f
  cases r with
  | none =>
    show ((codec_left_take.f (bs []) 10 _).bind _).bind _ = _
    rw [take_none, Option.bind_some, z, Option.bind_some]
    rfl
  | some l =>
    have hl := h l rfl
    show ((codec_left_take.f (bs l) 0 _).bind _).bind _ = _
    rw [ew]
    by_cases hw : 8 ≤ l.length
    · have hg := g_yes 8 l hw
      rw [take_some l 8 (by decide) hl hw, Option.bind_some, hg]
      have hsz : (bs (l.take 8)).size = 8 := by rw [bs_size, List.length_take]; omega
      have := get64_loop (bs (l.take 8)) (by omega) (bs (l.drop 8)) 0 8 k 0 (by omega) (by omega)
      rw [List.take_zero, bs_list] at this
      rw [show ((0 : Nat) : Int) = 0 from rfl, show numN [] = 0 from rfl, show ((0 : Nat) : Int) = 0 from rfl] at this
      show (codec_get_uint64.l0 k 0 (bs (l.take 8)) ((bs (l.take 8)).size : Int) 0 (bs (l.drop 8)) 0).bind _ = _
      rw [this, Option.bind_some]
      rfl
    · have hg := g_no 8 l hw
      rw [take_torn l 8 hl hw, Option.bind_some, hg]
      show (codec_get_uint64.l0 k 0 (bs []) ((bs []).size : Int) 0 (bs []) 10).bind _ = _
      rw [z, Option.bind_some]
      rfl
theorem read32 (r : Option (List UInt8)) (h : small r) (k : Nat) (hk : 20 < k) : codec_Reader_U32.f k (st r).1 (st r).2 = some ((g 4 r).1, (st (g 4 r).2).1, (st (g 4 r).2).2) := by
  have ew : IntKind.u64.wrap (4 : Int) = ((4 : Nat) : Int) := IntWalk.u64_in _ ⟨by decide, by decide⟩
  have z : codec_get_uint32.l0 k 0 (bs []) ((bs []).size : Int) 0 (bs []) 10 = some (0, bs [], 10) := by
    have := get32_loop (bs []) (by decide) (bs []) 10 0 k 0 (by decide) (by omega)
    simpa [bs_list, numN] using this
  unfold codec_Reader_U32.f codec_get_uint32.f
  cases r with
  | none =>
    show ((codec_left_take.f (bs []) 10 _).bind _).bind _ = _
    rw [take_none, Option.bind_some, z, Option.bind_some]
    rfl
  | some l =>
    have hl := h l rfl
    show ((codec_left_take.f (bs l) 0 _).bind _).bind _ = _
    rw [ew]
    by_cases hw : 4 ≤ l.length
    · have hg := g_yes 4 l hw
      rw [take_some l 4 (by decide) hl hw, Option.bind_some, hg]
      have hsz : (bs (l.take 4)).size = 4 := by rw [bs_size, List.length_take]; omega
      have := get32_loop (bs (l.take 4)) (by omega) (bs (l.drop 4)) 0 4 k 0 (by omega) (by omega)
      rw [List.take_zero, bs_list] at this
      rw [show ((0 : Nat) : Int) = 0 from rfl, show numN [] = 0 from rfl, show ((0 : Nat) : Int) = 0 from rfl] at this
      show (codec_get_uint32.l0 k 0 (bs (l.take 4)) ((bs (l.take 4)).size : Int) 0 (bs (l.drop 4)) 0).bind _ = _
      rw [this, Option.bind_some]
      rfl
    · have hg := g_no 4 l hw
      rw [take_torn l 4 hl hw, Option.bind_some, hg]
      show (codec_get_uint32.l0 k 0 (bs []) ((bs []).size : Int) 0 (bs []) 10).bind _ = _
      rw [z, Option.bind_some]
      rfl
theorem read16 (r : Option (List UInt8)) (h : small r) (k : Nat) (hk : 20 < k) : codec_Reader_U16.f k (st r).1 (st r).2 = some ((g 2 r).1, (st (g 2 r).2).1, (st (g 2 r).2).2) := by
  have ew : IntKind.u64.wrap (2 : Int) = ((2 : Nat) : Int) := IntWalk.u64_in _ ⟨by decide, by decide⟩
  have z : codec_get_uint16.l0 k 0 (bs []) ((bs []).size : Int) 0 (bs []) 10 = some (0, bs [], 10) := by
    have := get16_loop (bs []) (by decide) (bs []) 10 0 k 0 (by decide) (by omega)
    simpa [bs_list, numN] using this
  unfold codec_Reader_U16.f codec_get_uint16.f
  cases r with
  | none =>
    show ((codec_left_take.f (bs []) 10 _).bind _).bind _ = _
    rw [take_none, Option.bind_some, z, Option.bind_some]
    rfl
  | some l =>
    have hl := h l rfl
    show ((codec_left_take.f (bs l) 0 _).bind _).bind _ = _
    rw [ew]
    by_cases hw : 2 ≤ l.length
    · have hg := g_yes 2 l hw
      rw [take_some l 2 (by decide) hl hw, Option.bind_some, hg]
      have hsz : (bs (l.take 2)).size = 2 := by rw [bs_size, List.length_take]; omega
      have := get16_loop (bs (l.take 2)) (by omega) (bs (l.drop 2)) 0 2 k 0 (by omega) (by omega)
      rw [List.take_zero, bs_list] at this
      rw [show ((0 : Nat) : Int) = 0 from rfl, show numN [] = 0 from rfl, show ((0 : Nat) : Int) = 0 from rfl] at this
      show (codec_get_uint16.l0 k 0 (bs (l.take 2)) ((bs (l.take 2)).size : Int) 0 (bs (l.drop 2)) 0).bind _ = _
      rw [this, Option.bind_some]
      rfl
    · have hg := g_no 2 l hw
      rw [take_torn l 2 hl hw, Option.bind_some, hg]
      show (codec_get_uint16.l0 k 0 (bs []) ((bs []).size : Int) 0 (bs []) 10).bind _ = _
      rw [z, Option.bind_some]
      rfl
theorem read8 (r : Option (List UInt8)) (h : small r) (k : Nat) (hk : 20 < k) : codec_Reader_U8.f k (st r).1 (st r).2 = some ((g 1 r).1, (st (g 1 r).2).1, (st (g 1 r).2).2) := by
  have ew : IntKind.u64.wrap (1 : Int) = ((1 : Nat) : Int) := IntWalk.u64_in _ ⟨by decide, by decide⟩
  have z : codec_get_uint8.l0 k 0 (bs []) ((bs []).size : Int) 0 (bs []) 10 = some (0, bs [], 10) := by
    have := get8_loop (bs []) (by decide) (bs []) 10 0 k 0 (by decide) (by omega)
    simpa [bs_list, numN] using this
  unfold codec_Reader_U8.f codec_get_uint8.f
  cases r with
  | none =>
    show ((codec_left_take.f (bs []) 10 _).bind _).bind _ = _
    rw [take_none, Option.bind_some, z, Option.bind_some]
    rfl
  | some l =>
    have hl := h l rfl
    show ((codec_left_take.f (bs l) 0 _).bind _).bind _ = _
    rw [ew]
    by_cases hw : 1 ≤ l.length
    · have hg := g_yes 1 l hw
      rw [take_some l 1 (by decide) hl hw, Option.bind_some, hg]
      have hsz : (bs (l.take 1)).size = 1 := by rw [bs_size, List.length_take]; omega
      have := get8_loop (bs (l.take 1)) (by omega) (bs (l.drop 1)) 0 1 k 0 (by omega) (by omega)
      rw [List.take_zero, bs_list] at this
      rw [show ((0 : Nat) : Int) = 0 from rfl, show numN [] = 0 from rfl, show ((0 : Nat) : Int) = 0 from rfl] at this
      show (codec_get_uint8.l0 k 0 (bs (l.take 1)) ((bs (l.take 1)).size : Int) 0 (bs (l.drop 1)) 0).bind _ = _
      rw [this, Option.bind_some]
      rfl
    · have hg := g_no 1 l hw
      rw [take_torn l 1 hl hw, Option.bind_some, hg]
      show (codec_get_uint8.l0 k 0 (bs []) ((bs []).size : Int) 0 (bs []) 10).bind _ = _
      rw [z, Option.bind_some]
      rfl
/-! ### the next frame -/
def sumOf (l : List UInt8) (n : Nat) : Nat := updN (updN 0 (bs (l.take 2))) (bs ((l.drop 6).take n))
def nextN (l : List UInt8) : List UInt8 × Int × Int :=
  if l.length < 6 then ([], 0, 10)
  else if 4096 < numN (l.take 2) then ([], 0, 3)
  else if (l.drop 6).length < numN (l.take 2) then ([], 0, 10)
  else if sumOf l (numN (l.take 2)) ≠ numN ((l.drop 2).take 4) then ([], 0, 9)
  else ((l.drop 6).take (numN (l.take 2)), ((6 + numN (l.take 2) : Nat) : Int), 0)
theorem next_f (l : List UInt8) (hl : l.length ≤ 100000) (k : Nat) (hk : 100010 < k) : frame_Next.f k (bs l) = some (bs (nextN l).1, (nextN l).2.1, (nextN l).2.2) := by
  unfold frame_Next.f nextN
  rw [bs_size]
  by_cases h6 : l.length < 6
  · rw [if_pos (by omega), if_pos h6]; rfl
  · rw [if_neg (by omega), if_neg h6]
    have r1 := read16 (some l) (fun x hx => by cases hx; exact hl) k (by omega)
    have g1 := g_yes 2 l (by omega)
    rw [g1] at r1
    have r2 := read32 (some (l.drop 2)) (fun x hx => by cases hx; rw [List.length_drop]; omega) k (by omega)
    have g2 := g_yes 4 (l.drop 2) (by rw [List.length_drop]; omega)
    rw [g2] at r2
    have nl : numN (l.take 2) < 65536 := by
      have := numN_lt (l.take 2)
      rw [List.length_take, Nat.min_eq_left (by omega)] at this
      exact this
    have d6 : (l.drop 2).drop 4 = l.drop 6 := by rw [List.drop_drop]
    rw [d6] at r2
    have ew : wrap64 ((numN (l.take 2) : Nat) : Int) = ((numN (l.take 2) : Nat) : Int) := by unfold wrap64; omega
    unfold codec_New.f codec_Reader_Rest.f
    rw [Option.bind_some]
    have r1' : codec_Reader_U16.f k (bs l) 0 = some (((numN (l.take 2) : Nat) : Int), bs (l.drop 2), 0) := r1
    have r2' : codec_Reader_U32.f k (bs (l.drop 2)) 0 = some (((numN ((l.drop 2).take 4) : Nat) : Int), bs (l.drop 6), 0) := r2
    rw [r1', Option.bind_some, r2', Option.bind_some, Option.bind_some]
    show (if wrap64 ((numN (l.take 2) : Nat) : Int) > 4096 then _ else _) = _
    rw [ew]
    by_cases c1 : 4096 < numN (l.take 2)
    · rw [if_pos (by omega), if_pos c1]; rfl
    · rw [if_neg (by omega), if_neg c1, bs_size]
      by_cases c2 : (l.drop 6).length < numN (l.take 2)
      · rw [if_pos (by omega), if_pos c2]; rfl
      · rw [if_neg (by omega), if_neg c2, if_pos (by decide), if_pos (by omega)]
        have e0 : (bs l).extract 0 2 = bs (l.take 2) := by rw [bs_extract, List.drop_zero]
        have e1 : (bs (l.drop 6)).extract 0 (((numN (l.take 2) : Nat) : Int)).toNat = bs ((l.drop 6).take (numN (l.take 2))) := by rw [Int.toNat_natCast, bs_extract, List.drop_zero]
        have sz2 : (bs (l.take 2)).size < k := by rw [bs_size, List.length_take]; omega
        have szn : (bs ((l.drop 6).take (numN (l.take 2)))).size < k := by rw [bs_size, List.length_take]; omega
        have z2 : (bs (l.take 2)).size < 9223372036854775807 := by rw [bs_size, List.length_take]; omega
        have zn : (bs ((l.drop 6).take (numN (l.take 2)))).size < 9223372036854775807 := by rw [bs_size, List.length_take]; omega
        rw [e0, sum_f _ z2 k sz2, Option.bind_some, if_pos (by omega), if_pos (by omega), e1, update_f _ (updN_lt 0 _ (by decide)) _ zn k szn, Option.bind_some]
        by_cases c3 : sumOf l (numN (l.take 2)) ≠ numN ((l.drop 2).take 4)
        · rw [if_neg (by intro h; exact c3 (Int.ofNat.inj h)), if_pos c3]; rfl
        · have c4 : updN (updN 0 (bs (l.take 2))) (bs ((l.drop 6).take (numN (l.take 2)))) = numN ((l.drop 2).take 4) := Decidable.not_not.1 c3
          rw [if_pos (by rw [c4]), if_neg c3]
          rw [show wrap64 (6 + ((numN (l.take 2) : Nat) : Int)) = ((6 + numN (l.take 2) : Nat) : Int) by unfold wrap64; omega]
/-! ### numbers back -/
def enc (xs : List Int) : List UInt8 := xs.map fun n => UInt8.ofNat n.toNat
theorem str_bs (xs : List Int) : strOfNums xs = bs (enc xs) := rfl
theorem enc_append (a b : List Int) : enc (a ++ b) = enc a ++ enc b := List.map_append
theorem enc_len (a : List Int) : (enc a).length = a.length := List.length_map _
theorem leN (n w : Nat) : Wr.leBytes (n : Int) (w + 1) = ((n % 256 : Nat) : Int) :: Wr.leBytes ((n / 256 : Nat) : Int) w := by
  unfold Wr.leBytes
  rw [List.range_succ_eq_map, List.map_cons, List.map_map]
  congr 1
  · unfold Wr.byteAt; simp
  · apply List.map_congr_left
    intro i _
    show Wr.byteAt (n : Int) (i + 1) = Wr.byteAt ((n / 256 : Nat) : Int) i
    unfold Wr.byteAt
    have : ((n / 256 : Nat) : Int) = (n : Int) / 256 := by omega
    rw [this, Int.ediv_ediv_of_nonneg (by decide)]
    have e : (256 : Int) * 2 ^ (8 * i) = 2 ^ (8 * (i + 1)) := by rw [Nat.mul_add, Int.pow_add, Int.mul_comm]; rfl
    rw [e]
theorem num_le (w : Nat) : ∀ n : Nat, n < 256 ^ w → numN (enc (Wr.leBytes (n : Int) w)) = n := by
  induction w with
  | zero => intro n h; simp [Wr.leBytes, enc, numN] at *; omega
  | succ w ih =>
    intro n h
    rw [leN]
    show (UInt8.ofNat ((n % 256 : Nat) : Int).toNat).toNat + 256 * numN (enc (Wr.leBytes ((n / 256 : Nat) : Int) w)) = n
    rw [ih (n / 256) (by rw [Nat.pow_succ] at h; omega), Int.toNat_natCast]
    have : (UInt8.ofNat (n % 256)).toNat = n % 256 := by simp
    rw [this]; omega
/-! ### a manifest, read -/
def parts : Nat → Option (List UInt8) → List S29 × Option (List UInt8)
  | 0, r => ([], r)
  | n + 1, r => (⟨(g 8 r).1, (g 8 (g 8 r).2).1⟩ :: (parts n (g 8 (g 8 r).2).2).1, (parts n (g 8 (g 8 r).2).2).2)
def words : Nat → Option (List UInt8) → List Int × Option (List UInt8)
  | 0, r => ([], r)
  | n + 1, r => ((g 8 r).1 :: (words n (g 8 r).2).1, (words n (g 8 r).2).2)
theorem parts_small (n : Nat) : ∀ r, small r → small (parts n r).2 := by
  induction n with
  | zero => exact fun r h => h
  | succ n ih => exact fun r h => ih _ (g_small 8 _ (g_small 8 _ h))
theorem take_l0 (x0 : ByteArray) (x5 e pl : Int) (cnt : Nat) (hc : cnt ≤ 13) (d : Nat) : ∀ (k i : Nat) (r : Option (List UInt8)) (acc : List S29), i + d = cnt → small r → acc.length + d ≤ 100 → 20 < k →
    manifest_Take.l0 (k + d) x0 x5 (cnt : Int) (i : Int) (st r).1 (st r).2 e pl acc = manifest_Take.l0 k x0 x5 (cnt : Int) (cnt : Int) (st (parts d r).2).1 (st (parts d r).2).2 e pl (acc ++ (parts d r).1) := by
  induction d with
  | zero =>
    intro k i r acc hd hr ha hk
    have : i = cnt := by omega
    subst this
    simp [parts]
  | succ d ih =>
    intro k i r acc hd hr ha hk
    have hw : ((i : Int) + 1) % 256 = ((i + 1 : Nat) : Int) := by omega
    rw [show k + (d + 1) = (k + d) + 1 by omega]
    conv => lhs; simp only [manifest_Take.l0]
    rw [if_pos (by omega), read64 r hr (k + d) (by omega), Option.bind_some]
    show ((codec_Reader_U64.f (k + d) (st (g 8 r).2).1 (st (g 8 r).2).2).bind _) = _
    rw [read64 _ (g_small 8 r hr) (k + d) (by omega), Option.bind_some, if_pos (by omega), hw]
    have := ih k (i + 1) (g 8 (g 8 r).2).2 (acc ++ [(⟨(g 8 r).1, (g 8 (g 8 r).2).1⟩ : S29)]) (by omega) (g_small 8 _ (g_small 8 _ hr)) (by simp; omega) hk
    rw [this]
    simp [parts]
theorem take_l1 (x0 : ByteArray) (x5 e pl : Int) (l2 : List S29) (cnt : Nat) (hc : cnt ≤ 3) (d : Nat) : ∀ (k i : Nat) (r : Option (List UInt8)) (acc : List Int), i + d = cnt → small r → acc.length + d ≤ 100 → 20 < k →
    manifest_Take.l1 (k + d) x0 x5 (cnt : Int) (i : Int) (st r).1 (st r).2 e pl l2 acc = manifest_Take.l1 k x0 x5 (cnt : Int) (cnt : Int) (st (words d r).2).1 (st (words d r).2).2 e pl l2 (acc ++ (words d r).1) := by
  induction d with
  | zero =>
    intro k i r acc hd hr ha hk
    have : i = cnt := by omega
    subst this
    simp [words]
  | succ d ih =>
    intro k i r acc hd hr ha hk
    have hw : ((i : Int) + 1) % 256 = ((i + 1 : Nat) : Int) := by omega
    rw [show k + (d + 1) = (k + d) + 1 by omega]
    conv => lhs; simp only [manifest_Take.l1]
    rw [if_pos (by omega), read64 r hr (k + d) (by omega), Option.bind_some, if_pos (by omega), hw]
    have := ih k (i + 1) (g 8 r).2 (acc ++ [(g 8 r).1]) (by omega) (g_small 8 _ hr) (by simp; omega) hk
    show manifest_Take.l1 (k + d) x0 x5 (cnt : Int) ((i + 1 : Nat) : Int) (st (g 8 r).2).1 (st (g 8 r).2).2 e pl l2 (acc ++ [(g 8 r).1]) = _
    rw [this]
    simp [words]
/-- What a payload tells: the fields, and what is left. -/
structure Told where
  e : Int
  pl : Int
  l2 : List S29
  l3 : List Int
  left : Option (List UInt8)
def lim (m : Nat) (n : Int) : Nat := min n.toNat m
def tell (p : List UInt8) : Told :=
  ⟨(g 8 (some p)).1, (g 1 (g 8 (some p)).2).1, (parts (lim 13 (g 1 (g 1 (g 8 (some p)).2).2).1) (g 1 (g 1 (g 8 (some p)).2).2).2).1, (words (lim 3 (g 1 (parts (lim 13 (g 1 (g 1 (g 8 (some p)).2).2).1) (g 1 (g 1 (g 8 (some p)).2).2).2).2).1) (g 1 (parts (lim 13 (g 1 (g 1 (g 8 (some p)).2).2).1) (g 1 (g 1 (g 8 (some p)).2).2).2).2).2).1, (words (lim 3 (g 1 (parts (lim 13 (g 1 (g 1 (g 8 (some p)).2).2).1) (g 1 (g 1 (g 8 (some p)).2).2).2).2).1) (g 1 (parts (lim 13 (g 1 (g 1 (g 8 (some p)).2).2).1) (g 1 (g 1 (g 8 (some p)).2).2).2).2).2).2⟩
/-- P17.1: a text's manifest. -/
def takeN (l : List UInt8) : Int × Int × List S29 × List Int × Int :=
  if (nextN l).2.2 = 0 then
    if (nextN l).2.1 = (l.length : Int) ∧ (tell (nextN l).1).left = some [] ∧ okB (tell (nextN l).1).e (tell (nextN l).1).pl (tell (nextN l).1).l2 (tell (nextN l).1).l3 = true then
      ((tell (nextN l).1).e, (tell (nextN l).1).pl, (tell (nextN l).1).l2, (tell (nextN l).1).l3, 0)
    else (0, 0, [], [], 4)
  else (0, 0, [], [], (nextN l).2.2)
theorem g_nonneg (w : Nat) (r : Option (List UInt8)) : 0 ≤ (g w r).1 := by
  cases r with
  | none => simp [g]
  | some l => by_cases h : w ≤ l.length
              · rw [g_yes w l h]; simp
              · rw [g_no w l h]; simp
theorem lim_mn (m : Nat) (n : Int) (h : 0 ≤ n) : mn n (m : Int) = ((lim m n : Nat) : Int) := by
  unfold mn lim
  split <;> omega
theorem next_small (l : List UInt8) (hl : l.length ≤ 100000) : (nextN l).1.length ≤ 100000 := by
  unfold nextN
  split
  · simp
  · split
    · simp
    · split
      · simp
      · split
        · simp
        · simp; omega
theorem take_f (l : List UInt8) (hl : l.length ≤ 100000) (k : Nat) (hk : 101000 < k) : manifest_Take.f k (bs l) = some (takeN l) := by
  unfold manifest_Take.f takeN
  rw [next_f l hl k (by omega), Option.bind_some]
  by_cases h0 : (nextN l).2.2 = 0
  · rw [if_pos h0, if_pos h0]
    have hs := next_small l hl
    generalize (nextN l).1 = p at hs ⊢
    generalize (nextN l).2.1 = used
    unfold codec_New.f
    rw [Option.bind_some]
    have sp : small (some p) := fun x hx => by cases hx; exact hs
    have q1 := read64 (some p) sp k (by omega)
    have s1 := g_small 8 _ sp
    have q2 := read8 (g 8 (some p)).2 s1 k (by omega)
    have s2 := g_small 1 _ s1
    have q3 := read8 (g 1 (g 8 (some p)).2).2 s2 k (by omega)
    have s3 := g_small 1 _ s2
    have q1' : codec_Reader_U64.f k (bs p) 0 = _ := q1
    rw [q1', Option.bind_some]
    show ((codec_Reader_U8.f k (st (g 8 (some p)).2).1 (st (g 8 (some p)).2).2).bind _) = _
    rw [q2, Option.bind_some]
    show ((codec_Reader_U8.f k (st (g 1 (g 8 (some p)).2).2).1 (st (g 1 (g 8 (some p)).2).2).2).bind _) = _
    rw [q3, Option.bind_some]
    unfold tell
    dsimp only
    generalize he : (g 8 (some p)).1 = e
    generalize hpl : (g 1 (g 8 (some p)).2).1 = pl
    have hn := g_nonneg 1 (g 1 (g 8 (some p)).2).2
    generalize (g 1 (g 1 (g 8 (some p)).2).2).1 = c at hn ⊢
    generalize (g 1 (g 1 (g 8 (some p)).2).2).2 = r at s3 ⊢
    show manifest_Take.l0 k (bs l) used (mn c 13) 0 (st r).1 (st r).2 e pl [] = _
    have hm := lim_mn 13 c hn
    rw [show ((13 : Nat) : Int) = 13 from rfl] at hm
    have hlim : lim 13 c ≤ 13 := Nat.min_le_right _ _
    rw [hm]
    generalize lim 13 c = cnt at hlim ⊢
    obtain ⟨k1, rfl⟩ : ∃ m, k = (m + 1) + cnt := ⟨k - 1 - cnt, by omega⟩
    have L0 := take_l0 (bs l) used e pl cnt hlim cnt (k1 + 1) 0 r [] (by omega) s3 (by simp; omega) (by omega)
    rw [show ((0 : Nat) : Int) = 0 from rfl, List.nil_append] at L0
    rw [L0]
    have s4 := parts_small cnt r s3
    generalize (parts cnt r).1 = l2
    generalize (parts cnt r).2 = r2 at s4 ⊢
    conv => lhs; simp only [manifest_Take.l0]
    rw [if_neg (by omega), read8 r2 s4 k1 (by omega), Option.bind_some]
    have s5 := g_small 1 _ s4
    have hn2 := g_nonneg 1 r2
    generalize (g 1 r2).1 = d at hn2 ⊢
    generalize (g 1 r2).2 = r3 at s5 ⊢
    show manifest_Take.l1 k1 (bs l) used (mn d 3) 0 (st r3).1 (st r3).2 e pl l2 [] = _
    have hm2 := lim_mn 3 d hn2
    rw [show ((3 : Nat) : Int) = 3 from rfl] at hm2
    have hlim2 : lim 3 d ≤ 3 := Nat.min_le_right _ _
    rw [hm2]
    generalize lim 3 d = cnt2 at hlim2 ⊢
    obtain ⟨k2, rfl⟩ : ∃ m, k1 = (m + 1) + cnt2 := ⟨k1 - 1 - cnt2, by omega⟩
    have L1 := take_l1 (bs l) used e pl l2 cnt2 hlim2 cnt2 (k2 + 1) 0 r3 [] (by omega) s5 (by simp; omega) (by omega)
    rw [show ((0 : Nat) : Int) = 0 from rfl, List.nil_append] at L1
    rw [L1]
    generalize (words cnt2 r3).1 = l3
    generalize (words cnt2 r3).2 = r4
    conv => lhs; simp only [manifest_Take.l1]
    rw [if_neg (by omega), bs_size]
    unfold codec_Reader_Err.f codec_Reader_Rest.f
    by_cases u1 : used = (l.length : Int)
    · rw [if_pos u1, Option.bind_some]
      cases r4 with
      | none =>
        rw [if_neg (by decide), if_neg (by simp)]
      | some rest =>
        show (if (0 : Int) = 0 then _ else _) = _
        rw [if_pos rfl, Option.bind_some]
        show (if (bs rest).toList = [] then _ else _) = _
        rw [bs_toList]
        by_cases u2 : rest = []
        · subst u2
          rw [if_pos rfl, check_f e pl l2 l3 k2 (by omega), Option.bind_some]
          by_cases u3 : okB e pl l2 l3 = true
          · rw [if_pos u3, if_pos rfl, if_pos ⟨u1, rfl, u3⟩]
          · rw [if_neg u3, if_neg (by decide), if_neg (fun h => u3 h.2.2)]
        · rw [if_neg u2, if_neg (fun h => u2 (by simpa using h.2.1))]
    · rw [if_neg u1, if_neg (fun h => u1 h.1)]
  · rw [if_neg h0, if_neg h0]
end Go.Proofs.YtbffgpfkgmhmhaaGreatDoor.PT
-- out of the translation's print, by a program and by hand (wip/tools/hp.py)
namespace Go.Proofs.YtbffgpfkgmhmhaaGreatDoor.HM
open Go.RowKit Go.Proofs.YtbffgpfkgmhmhaaGreatDoorW.PrintWords Go.Proofs.YtbffgpfkgmhmhaaGreatDoorW.PrintLast Go.Proofs.YtbffgpfkgmhmhaaGreatDoorW.PrintMore
attribute [local go_sem] max2_int min2_int max_two min_two max_three min_three max_four min_four   -- for this text's walks alone
set_option linter.unusedVariables false
set_option linter.unusedSimpArgs false
/-! ### hindcastlaw17_awake: function 17 -/
def hindcastlaw17_awake.f (k : Nat)  : Option (Bool) := (hindcastlaw17_one.f).bind fun bt214 => ((manifest_Put.f k bt214.1 bt214.2.1 bt214.2.2.1 bt214.2.2.2).bind fun bt222 => ((manifest_Take.f k bt222.1).bind fun bt224 => (if (bt222.1.size : Int) = 33 then (if bt222.2 = 0 then (if bt224.2.2.2.2 = 0 then ((hindcastlaw17_one.f).bind fun bt234 => ((hindcastlaw17_same.f k bt224.1 bt224.2.1 bt224.2.2.1 bt224.2.2.2.1 bt234.1 bt234.2.1 bt234.2.2.1 bt234.2.2.2).bind fun t242 => (if t242 = true then ((manifest_Check.f k 0 0 ([] : List (S29)) ([] : List Int)).bind fun t243 => (some (t243 == 4))) else (none)))) else (none)) else (none)) else (none))))
def hindcastlaw17_awake.T3 : Bool × List (List Nat × List Nat) := (true, [([], []), ([0], [0]), ([1], [1]), ([2], [2]), ([3], [3]), ([4, 3], [3, 4]), ([3, 5], [3, 5]), ([6, 3], [6]), ([7], [7]), ([8, 7], [7, 8]), ([7, 9], [7, 9]), ([10, 7], [10]), ([11], [11]), ([11, 11], [11]), ([12, 13, 13, 11], [11, 12, 13]), ([11, 14], [11, 14]), ([15, 14], [15]), ([16], [16]), ([17, 16, 16], [16, 17]), ([18, 16], [16, 18]), ([16, 19], [16, 19]), ([20, 18, 0, 1, 2, 3, 4, 5, 6, 7, 8, 9, 10, 11, 12, 13, 14, 15, 16, 17, 18, 19, 20], [20])])
def hindcastlaw17_awake.B3 : List Nat := [0, 1, 3, 7, 15, 31, 63, 127, 255, 511, 1023, 2047, 4095, 4095, 16383, 32767, 65535, 131071, 262143, 524287, 1048575, 2097151]
theorem hindcastlaw17_awake.tab3 : rtab .any (opsOf Tryz.f17 3) = hindcastlaw17_awake.T3 := by kernel_rfl
theorem hindcastlaw17_awake.bits3 : waitsOk hindcastlaw17_awake.T3.2 hindcastlaw17_awake.B3 = true := by kernel_rfl
set_option maxHeartbeats 8000000 in
set_option maxRecDepth 100000 in
theorem hindcastlaw17_awake.calls (k : Nat)  (r : Bool) (w : World) (h : hindcastlaw17_awake.f k  = some r) (HL : Aside0 (Go.Proofs.YtbffgpfkgmhmhaaGreatDoor.Crc.Laid w)) :
    Calls Tryz.prog 17 #[] w fun e w' => e = .returned (.bool r) ∧ Below w.heap.size w w' := by
  have hu26 := Tryz.underlying26
  have HB := Aside0.mk (Below.refl w.heap.size w)
  have H : ((hindcastlaw17_one.f).bind fun bt214 => ((manifest_Put.f k bt214.1 bt214.2.1 bt214.2.2.1 bt214.2.2.2).bind fun bt222 => ((manifest_Take.f k bt222.1).bind fun bt224 => (if (bt222.1.size : Int) = 33 then (if bt222.2 = 0 then (if bt224.2.2.2.2 = 0 then ((hindcastlaw17_one.f).bind fun bt234 => ((hindcastlaw17_same.f k bt224.1 bt224.2.1 bt224.2.2.1 bt224.2.2.2.1 bt234.1 bt234.2.1 bt234.2.2.1 bt234.2.2.2).bind fun t242 => (if t242 = true then ((manifest_Check.f k 0 0 ([] : List (S29)) ([] : List Int)).bind fun t243 => (some (t243 == 4))) else (none)))) else (none)) else (none)) else (none))))) = some r := h
  clear h
  replace H := Option.bind_eq_some_iff.mp H
  obtain ⟨⟨t214, t215, t216, t219⟩, A10, H⟩ := H
  replace H : ((manifest_Put.f k t214 t215 t216 t219).bind fun bt222 => ((manifest_Take.f k bt222.1).bind fun bt224 => (if (bt222.1.size : Int) = 33 then (if bt222.2 = 0 then (if bt224.2.2.2.2 = 0 then ((hindcastlaw17_one.f).bind fun bt234 => ((hindcastlaw17_same.f k bt224.1 bt224.2.1 bt224.2.2.1 bt224.2.2.2.1 bt234.1 bt234.2.1 bt234.2.2.1 bt234.2.2.2).bind fun t242 => (if t242 = true then ((manifest_Check.f k 0 0 ([] : List (S29)) ([] : List Int)).bind fun t243 => (some (t243 == 4))) else (none)))) else (none)) else (none)) else (none)))) = some r := H
  have A1 := Aside0.mk A10
  clear A10
  replace H := Option.bind_eq_some_iff.mp H
  obtain ⟨⟨t222, t223⟩, A20, H⟩ := H
  replace H : ((manifest_Take.f k t222).bind fun bt224 => (if (t222.size : Int) = 33 then (if t223 = 0 then (if bt224.2.2.2.2 = 0 then ((hindcastlaw17_one.f).bind fun bt234 => ((hindcastlaw17_same.f k bt224.1 bt224.2.1 bt224.2.2.1 bt224.2.2.2.1 bt234.1 bt234.2.1 bt234.2.2.1 bt234.2.2.2).bind fun t242 => (if t242 = true then ((manifest_Check.f k 0 0 ([] : List (S29)) ([] : List Int)).bind fun t243 => (some (t243 == 4))) else (none)))) else (none)) else (none)) else (none))) = some r := H
  have A2 := Aside0.mk A20
  clear A20
  replace H := Option.bind_eq_some_iff.mp H
  obtain ⟨⟨t224, t225, t226, t229, t232⟩, A30, H⟩ := H
  replace H : (if (t222.size : Int) = 33 then (if t223 = 0 then (if t232 = 0 then ((hindcastlaw17_one.f).bind fun bt234 => ((hindcastlaw17_same.f k t224 t225 t226 t229 bt234.1 bt234.2.1 bt234.2.2.1 bt234.2.2.2).bind fun t242 => (if t242 = true then ((manifest_Check.f k 0 0 ([] : List (S29)) ([] : List Int)).bind fun t243 => (some (t243 == 4))) else (none)))) else (none)) else (none)) else (none)) = some r := H
  have A3 := Aside0.mk A30
  clear A30
  by_cases c4 : (t222.size : Int) = 33
  · rw [if_pos c4] at H
    have c4b0 : ((t222.size : Int) == 33) = true := beq_iff_eq.mpr c4
    have c4b1 : ((t222.size : Int) != 33) = false := bne_eq_false_iff_eq.mpr c4
    clear c4
    by_cases c5 : t223 = 0
    · rw [if_pos c5] at H
      have c5b0 : (t223 == 0) = true := beq_iff_eq.mpr c5
      have c5b1 : (t223 != 0) = false := bne_eq_false_iff_eq.mpr c5
      clear c5
      by_cases c6 : t232 = 0
      · rw [if_pos c6] at H
        have c6b0 : (t232 == 0) = true := beq_iff_eq.mpr c6
        have c6b1 : (t232 != 0) = false := bne_eq_false_iff_eq.mpr c6
        clear c6
        replace H := Option.bind_eq_some_iff.mp H
        obtain ⟨⟨t234, t235, t236, t239⟩, A70, H⟩ := H
        replace H : ((hindcastlaw17_same.f k t224 t225 t226 t229 t234 t235 t236 t239).bind fun t242 => (if t242 = true then ((manifest_Check.f k 0 0 ([] : List (S29)) ([] : List Int)).bind fun t243 => (some (t243 == 4))) else (none))) = some r := H
        have A7 := Aside0.mk A70
        clear A70
        replace H := Option.bind_eq_some_iff.mp H
        obtain ⟨t242, A80, H⟩ := H
        replace H : (if t242 = true then ((manifest_Check.f k 0 0 ([] : List (S29)) ([] : List Int)).bind fun t243 => (some (t243 == 4))) else (none)) = some r := H
        have A8 := Aside0.mk A80
        clear A80
        by_cases c9 : t242 = true
        · subst c9
          have H1 : ((manifest_Check.f k 0 0 ([] : List (S29)) ([] : List Int)).bind fun t243 => (some (t243 == 4))) = some r := by rw [if_pos rfl] at H; exact H
          clear H
          have H := H1
          clear H1
          replace H := Option.bind_eq_some_iff.mp H
          obtain ⟨t243, A100, H⟩ := H
          replace H : (some (t243 == 4)) = some r := H
          have A10 := Aside0.mk A100
          clear A100
          obtain rfl := Option.some.inj H
          go_enter Tryz.func17, Tryz.ntmps17
          try go_wp2_with (first | ((with_reducible refine gate_callee (f := 7) rfl ?_); refine goesL_ (some 6) rfl rfl Tryz.func7 (by kernel_rfl) rfl #[] rfl (by (try simp only [List.map_toArray, List.map_cons, List.map_nil]); first | done | rfl | (simp only [List.length_drop, List.length_take]; rfl)) ?_; (with_reducible refine (hindcastlaw17_one.calls  t214 t215 t216 t219 _ A1.out).mono ?_); rintro e w11 ⟨v217, v220, rfl, ho0, ho1, hb⟩; refine ⟨_, rfl, ?_⟩; have n0_ := Aside0.mk (Kd.R_lower ho0 (below_size (by repeat (first | (with_reducible first | exact HB.out | apply below_alloc | apply pw_below_drewN | apply below_drew1) | exact HB.out)))); have n1_ := Aside0.mk (Kd.R_lower ho1 (below_size (by repeat (first | (with_reducible first | exact HB.out | apply below_alloc | apply pw_below_drewN | apply below_drew1) | exact HB.out)))); have n2_ := Aside0.mk (below_step (by repeat (first | (with_reducible first | exact HB.out | apply below_alloc | apply pw_below_drewN | apply below_drew1) | exact HB.out)) hb); clear HB; have HO218 := n0_; have HO221 := n1_; have HB := n2_; clear n0_ n1_ n2_; (try clear hb); (try clear hb2); (try clear hk); (try clear hi); (try clear ho0); (try clear ho1); obtain ⟨Ao12, co12, eo12⟩ := Kd.R_slice HO218.out; subst eo12; obtain ⟨Ao13, co13, eo13⟩ := Kd.R_slice HO221.out; subst eo13) | ((with_reducible refine gate_callee (f := 11) rfl ?_); refine goesL_ (some 7) rfl rfl Tryz.func11 (by kernel_rfl) rfl #[.agg #[.int .u64 t214, .int .u8 t215, .slice Ao12 t216.length co12, .slice Ao13 t219.length co13]] rfl (by (try simp only [List.map_toArray, List.map_cons, List.map_nil]); first | done | rfl | (simp only [List.length_drop, List.length_take]; rfl)) ?_; (with_reducible refine (manifest_Put.calls k t214 t215 _ _ t216 _ _ t219 t222 t223 _ ?side1 ?side2 ?side3 ?side4 A2.out ⟨by first | exact HL.out | ((repeat (first | exact HL.out | apply Go.Proofs.YtbffgpfkgmhmhaaGreatDoor.Crc.laid_drewN | apply Go.Proofs.YtbffgpfkgmhmhaaGreatDoor.Crc.laid_drew)); done) | exact Go.Proofs.YtbffgpfkgmhmhaaGreatDoor.Crc.laid_below HL.out (by repeat (first | (with_reducible first | exact HB.out | apply below_alloc | apply pw_below_drewN | apply below_drew1) | exact HB.out))⟩).mono ?_); (case side1 => repeat (first | exact (Kd.R_reads' HO218.out).2.2 | (with_reducible refine Kd.C_alloc ?_ _) | (with_reducible refine Kd.C_drewN ?_ _) | (with_reducible refine Kd.C_drew ?_))); (case side2 => exact (Kd.R_reads' HO218.out).2.1); (case side3 => repeat (first | exact (Kd.R_reads' HO221.out).2.2 | (with_reducible refine Kd.C_alloc ?_ _) | (with_reducible refine Kd.C_drewN ?_ _) | (with_reducible refine Kd.C_drew ?_))); (case side4 => exact (Kd.R_reads' HO221.out).2.1); rintro e w14 ⟨rfl, hb⟩; refine ⟨_, rfl, ?_⟩; have n0_ := Aside0.mk (Kd.R_below (by (with_reducible repeat (first | apply Kd.R_alloc | apply Kd.R_drewN | apply Kd.R_drew)); exact HO218.out) hb); have n1_ := Aside0.mk (Kd.R_below (by (with_reducible repeat (first | apply Kd.R_alloc | apply Kd.R_drewN | apply Kd.R_drew)); exact HO221.out) hb); have n2_ := Aside0.mk (below_step (by repeat (first | (with_reducible first | exact HB.out | apply below_alloc | apply pw_below_drewN | apply below_drew1) | exact HB.out)) hb); clear HO218; clear HO221; clear HB; have HO218 := n0_; have HO221 := n1_; have HB := n2_; clear n0_ n1_ n2_; (try clear hb); (try clear hb2); (try clear hk); (try clear hi)) | ((with_reducible refine gate_callee (f := 12) rfl ?_); refine goesL_ (some 12) rfl rfl Tryz.func12 (by kernel_rfl) rfl #[.string t222] rfl (by (try simp only [List.map_toArray, List.map_cons, List.map_nil]); first | done | rfl | (simp only [List.length_drop, List.length_take]; rfl)) ?_; (with_reducible refine (manifest_Take.calls k t222 t224 t225 t226 t229 t232 _ A3.out ⟨by first | exact HL.out | ((repeat (first | exact HL.out | apply Go.Proofs.YtbffgpfkgmhmhaaGreatDoor.Crc.laid_drewN | apply Go.Proofs.YtbffgpfkgmhmhaaGreatDoor.Crc.laid_drew)); done) | exact Go.Proofs.YtbffgpfkgmhmhaaGreatDoor.Crc.laid_below HL.out (by repeat (first | (with_reducible first | exact HB.out | apply below_alloc | apply pw_below_drewN | apply below_drew1) | exact HB.out))⟩).mono ?_); rintro e w15 ⟨v227, v230, rfl, ho0, ho1, hb⟩; refine ⟨_, rfl, ?_⟩; have n0_ := Aside0.mk (Kd.R_elder' (by (with_reducible repeat (first | apply Kd.R_alloc | apply Kd.R_drewN | apply Kd.R_drew)); exact HO218.out) (Kd.R_base ho0) hb); have n1_ := Aside0.mk (Kd.R_elder' (by (with_reducible repeat (first | apply Kd.R_alloc | apply Kd.R_drewN | apply Kd.R_drew)); exact HO221.out) (Kd.R_base ho1) hb); have n2_ := Aside0.mk (Kd.R_lower (Kd.R_new' ho0 (Kd.R_lt (by (with_reducible repeat (first | apply Kd.R_alloc | apply Kd.R_drewN | apply Kd.R_drew)); exact HO218.out))) (below_size (by repeat (first | (with_reducible first | exact HB.out | apply below_alloc | apply pw_below_drewN | apply below_drew1) | exact HB.out)))); have n3_ := Aside0.mk (Kd.R_lower (Kd.R_new' ho1 (Kd.R_lt (by (with_reducible repeat (first | apply Kd.R_alloc | apply Kd.R_drewN | apply Kd.R_drew)); exact HO221.out))) (below_size (by repeat (first | (with_reducible first | exact HB.out | apply below_alloc | apply pw_below_drewN | apply below_drew1) | exact HB.out)))); have n4_ := Aside0.mk (below_step (by repeat (first | (with_reducible first | exact HB.out | apply below_alloc | apply pw_below_drewN | apply below_drew1) | exact HB.out)) hb); clear HO218; clear HO221; clear HB; have HO218 := n0_; have HO221 := n1_; have HO228 := n2_; have HO231 := n3_; have HB := n4_; clear n0_ n1_ n2_ n3_ n4_; (try clear hb); (try clear hb2); (try clear hk); (try clear hi); (try clear ho0); (try clear ho1)) | ((with_reducible refine gate_dst (N := 3) rfl ?_); refine box_event ?hg (N := 3) ?hd (cs := #[.int .u64 0, .int .u8 0, .slice none 0 0, .slice none 0 0]) (t := 26) ?hr ?_; (case hd => rfl); (case hg => rfl); (case hr => first | (go_simp; done) | (go_simp; rfl)); intro gb233 hg w16 hbox hb; have n0_ := Aside0.mk (Kd.R_below (by (with_reducible repeat (first | apply Kd.R_alloc | apply Kd.R_drewN | apply Kd.R_drew)); exact HO218.out) hb); have n1_ := Aside0.mk (Kd.R_below (by (with_reducible repeat (first | apply Kd.R_alloc | apply Kd.R_drewN | apply Kd.R_drew)); exact HO221.out) hb); have n2_ := Aside0.mk (Kd.R_below (by (with_reducible repeat (first | apply Kd.R_alloc | apply Kd.R_drewN | apply Kd.R_drew)); exact HO228.out) hb); have n3_ := Aside0.mk (Kd.R_below (by (with_reducible repeat (first | apply Kd.R_alloc | apply Kd.R_drewN | apply Kd.R_drew)); exact HO231.out) hb); have n4_ := Aside0.mk (below_step (by repeat (first | (with_reducible first | exact HB.out | apply below_alloc | apply pw_below_drewN | apply below_drew1) | exact HB.out)) hb); have n5_ := Aside0.mk (hbox); have n6_ := Aside0.mk ((by rw [hg]; exact (below_size (by repeat (first | (with_reducible first | exact HB.out | apply below_alloc | apply pw_below_drewN | apply below_drew1) | exact HB.out))) : w.heap.size ≤ gb233)); have n7_ := Aside0.mk ((by rw [hg]; exact (below_size (by repeat (first | (with_reducible first | exact HB.out | apply below_alloc | apply pw_below_drewN | apply below_drew1) | exact HB.out))) : w.heap.size ≤ gb233)); clear HO218; clear HO221; clear HO228; clear HO231; clear HB; have HO218 := n0_; have HO221 := n1_; have HO228 := n2_; have HO231 := n3_; have HB := n4_; have BK233 := n5_; have GW233 := n6_; have GE233 := n7_; clear n0_ n1_ n2_ n3_ n4_ n5_ n6_ n7_; clear hb hbox hg; have hcz17_0 : w16.cell? ⟨gb233, 0, none⟩ = some (.int .u64 0) := (blk_cell BK233.out 0).trans rfl; have hcz17_1 : w16.cell? ⟨gb233, 1, none⟩ = some (.int .u8 0) := (blk_cell BK233.out 1).trans rfl; have hcz17_2 : w16.cell? ⟨gb233, 2, none⟩ = some (.slice none 0 0) := (blk_cell BK233.out 2).trans rfl; have hcz17_3 : w16.cell? ⟨gb233, 3, none⟩ = some (.slice none 0 0) := (blk_cell BK233.out 3).trans rfl; have hfz17_0 := blk_frozen BK233.out 0; have hfz17_1 := blk_frozen BK233.out 1; have hfz17_2 := blk_frozen BK233.out 2; have hfz17_3 := blk_frozen BK233.out 3; obtain ⟨Ao18, co18, eo18⟩ := Kd.R_slice HO228.out; subst eo18; obtain ⟨Ao19, co19, eo19⟩ := Kd.R_slice HO231.out; subst eo19))
          have n0_ : Aside0 (Kd.R k29 29 ((((w16.setCell ⟨gb233, 0, none⟩ (.int .u64 t224)).setCell ⟨gb233, 1, none⟩ (.int .u8 t225)).setCell ⟨gb233, 2, none⟩ (.slice Ao18 t226.length co18)).setCell ⟨gb233, 3, none⟩ (.slice Ao19 t229.length co19)) w.heap.size (fun k_ => some k_ ≠ (.slice Ao18 t226.length co18 : Value).ownBlock) (.slice Ao12 t216.length co12) t216) := ⟨by (with_reducible repeat (first | apply Kd.R_alloc | apply Kd.R_drewN | apply Kd.R_drew)); exact Kd.R_mono (Kd.R_far (p := ⟨gb233, 3, none⟩) (Kd.R_far (p := ⟨gb233, 2, none⟩) (Kd.R_far (p := ⟨gb233, 1, none⟩) (Kd.R_far (p := ⟨gb233, 0, none⟩) (Kd.R_types HO218.out BK233.out (by decide)) (fun _ hk => hk.2) (.int .u64 t224)) (fun _ hk => hk.2) (.int .u8 t225)) (fun _ hk => hk.2) (.slice Ao18 t226.length co18)) (fun _ hk => hk.2) (.slice Ao19 t229.length co19)) (fun _ hk => hk.1.2)⟩
          have n1_ : Aside0 (Kd.R (Kd.int .u64) 22 ((((w16.setCell ⟨gb233, 0, none⟩ (.int .u64 t224)).setCell ⟨gb233, 1, none⟩ (.int .u8 t225)).setCell ⟨gb233, 2, none⟩ (.slice Ao18 t226.length co18)).setCell ⟨gb233, 3, none⟩ (.slice Ao19 t229.length co19)) w.heap.size (fun k_ => some k_ ≠ (.slice Ao19 t229.length co19 : Value).ownBlock) (.slice Ao13 t219.length co13) t219) := ⟨by (with_reducible repeat (first | apply Kd.R_alloc | apply Kd.R_drewN | apply Kd.R_drew)); exact Kd.R_mono (Kd.R_far (p := ⟨gb233, 3, none⟩) (Kd.R_far (p := ⟨gb233, 2, none⟩) (Kd.R_far (p := ⟨gb233, 1, none⟩) (Kd.R_far (p := ⟨gb233, 0, none⟩) (Kd.R_types HO221.out BK233.out (by decide)) (fun _ hk => hk.2) (.int .u64 t224)) (fun _ hk => hk.2) (.int .u8 t225)) (fun _ hk => hk.2) (.slice Ao18 t226.length co18)) (fun _ hk => hk.2) (.slice Ao19 t229.length co19)) (fun _ hk => hk.1.2)⟩
          have n2_ : Aside0 (Kd.R k29 29 ((((w16.setCell ⟨gb233, 0, none⟩ (.int .u64 t224)).setCell ⟨gb233, 1, none⟩ (.int .u8 t225)).setCell ⟨gb233, 2, none⟩ (.slice Ao18 t226.length co18)).setCell ⟨gb233, 3, none⟩ (.slice Ao19 t229.length co19)) w.heap.size (fun k_ => some k_ ≠ (.slice Ao12 t216.length co12 : Value).ownBlock) (.slice Ao18 t226.length co18) t226) := ⟨by (with_reducible repeat (first | apply Kd.R_alloc | apply Kd.R_drewN | apply Kd.R_drew)); exact Kd.R_mono (Kd.R_far (p := ⟨gb233, 3, none⟩) (Kd.R_far (p := ⟨gb233, 2, none⟩) (Kd.R_far (p := ⟨gb233, 1, none⟩) (Kd.R_far (p := ⟨gb233, 0, none⟩) (Kd.R_types HO228.out BK233.out (by decide)) (fun _ hk => hk.2) (.int .u64 t224)) (fun _ hk => hk.2) (.int .u8 t225)) (fun _ hk => hk.2) (.slice Ao18 t226.length co18)) (fun _ hk => hk.2) (.slice Ao19 t229.length co19)) (fun _ hk => hk.1.2)⟩
          have n3_ : Aside0 (Kd.R (Kd.int .u64) 22 ((((w16.setCell ⟨gb233, 0, none⟩ (.int .u64 t224)).setCell ⟨gb233, 1, none⟩ (.int .u8 t225)).setCell ⟨gb233, 2, none⟩ (.slice Ao18 t226.length co18)).setCell ⟨gb233, 3, none⟩ (.slice Ao19 t229.length co19)) w.heap.size (fun k_ => some k_ ≠ (.slice Ao13 t219.length co13 : Value).ownBlock) (.slice Ao19 t229.length co19) t229) := ⟨by (with_reducible repeat (first | apply Kd.R_alloc | apply Kd.R_drewN | apply Kd.R_drew)); exact Kd.R_mono (Kd.R_far (p := ⟨gb233, 3, none⟩) (Kd.R_far (p := ⟨gb233, 2, none⟩) (Kd.R_far (p := ⟨gb233, 1, none⟩) (Kd.R_far (p := ⟨gb233, 0, none⟩) (Kd.R_types HO231.out BK233.out (by decide)) (fun _ hk => hk.2) (.int .u64 t224)) (fun _ hk => hk.2) (.int .u8 t225)) (fun _ hk => hk.2) (.slice Ao18 t226.length co18)) (fun _ hk => hk.2) (.slice Ao19 t229.length co19)) (fun _ hk => hk.1.2)⟩
          have n4_ : Aside0 (((((w16.setCell ⟨gb233, 0, none⟩ (.int .u64 t224)).setCell ⟨gb233, 1, none⟩ (.int .u8 t225)).setCell ⟨gb233, 2, none⟩ (.slice Ao18 t226.length co18)).setCell ⟨gb233, 3, none⟩ (.slice Ao19 t229.length co19)).heap[gb233]? = some (.cells #[.int .u64 t224, .int .u8 t225, .slice Ao18 t226.length co18, .slice Ao19 t229.length co19] 26 (0, 0))) := ⟨by (with_reducible repeat (first | refine blk_drewN ?_ _ | refine blk_drew ?_ | refine blk_alloc ?_ _)); refine blk_put (cs := #[.int .u64 t224, .int .u8 t225, .slice Ao18 t226.length co18, .slice none 0 0]) ?_ 3 _ rfl; (with_reducible repeat (first | refine blk_drewN ?_ _ | refine blk_drew ?_ | refine blk_alloc ?_ _)); refine blk_put (cs := #[.int .u64 t224, .int .u8 t225, .slice none 0 0, .slice none 0 0]) ?_ 2 _ rfl; (with_reducible repeat (first | refine blk_drewN ?_ _ | refine blk_drew ?_ | refine blk_alloc ?_ _)); refine blk_put (cs := #[.int .u64 t224, .int .u8 0, .slice none 0 0, .slice none 0 0]) ?_ 1 _ rfl; (with_reducible repeat (first | refine blk_drewN ?_ _ | refine blk_drew ?_ | refine blk_alloc ?_ _)); refine blk_put (cs := #[.int .u64 0, .int .u8 0, .slice none 0 0, .slice none 0 0]) ?_ 0 _ rfl; (with_reducible repeat (first | refine blk_drewN ?_ _ | refine blk_drew ?_ | refine blk_alloc ?_ _)); exact BK233.out⟩
          have n5_ : Aside0 (Below w.heap.size w ((((w16.setCell ⟨gb233, 0, none⟩ (.int .u64 t224)).setCell ⟨gb233, 1, none⟩ (.int .u8 t225)).setCell ⟨gb233, 2, none⟩ (.slice Ao18 t226.length co18)).setCell ⟨gb233, 3, none⟩ (.slice Ao19 t229.length co19))) := ⟨by repeat (first | (with_reducible first | exact HB.out | apply below_alloc | apply pw_below_drewN | apply below_drew1 | refine below_set ?_ GE233.out) | exact HB.out)⟩
          (try clear HO218)
          (try clear HO221)
          (try clear HO228)
          (try clear HO231)
          (try clear BK233)
          (try clear HB)
          generalize ((((w16.setCell ⟨gb233, 0, none⟩ (.int .u64 t224)).setCell ⟨gb233, 1, none⟩ (.int .u8 t225)).setCell ⟨gb233, 2, none⟩ (.slice Ao18 t226.length co18)).setCell ⟨gb233, 3, none⟩ (.slice Ao19 t229.length co19)) = w20 at n0_ n1_ n2_ n3_ n4_ n5_ ⊢
          have HO218 := n0_
          have HO221 := n1_
          have HO228 := n2_
          have HO231 := n3_
          have BK233 := n4_
          have HB := n5_
          clear n0_ n1_ n2_ n3_ n4_ n5_
          have n0_ := Aside0.mk (Kd.R_drew HO218.out)
          have n1_ := Aside0.mk (Kd.R_drew HO221.out)
          have n2_ := Aside0.mk (Kd.R_drew HO228.out)
          have n3_ := Aside0.mk (Kd.R_drew HO231.out)
          have n4_ := Aside0.mk (blk_drew BK233.out)
          have n5_ := Aside0.mk (below_drew1 HB.out)
          clear HO218
          clear HO221
          clear HO228
          clear HO231
          clear BK233
          clear HB
          have HO218 := n0_
          have HO221 := n1_
          have HO228 := n2_
          have HO231 := n3_
          have BK233 := n4_
          have HB := n5_
          clear n0_ n1_ n2_ n3_ n4_ n5_
          refine start_ (n := 22) (S := fun w' => w'.cell? ⟨gb233, 0, none⟩ = some (.int .u64 t224) ∧ w'.cell? ⟨gb233, 1, none⟩ = some (.int .u8 t225) ∧ w'.cell? ⟨gb233, 2, none⟩ = some (.slice Ao18 t226.length co18) ∧ w'.cell? ⟨gb233, 3, none⟩ = some (.slice Ao19 t229.length co19)) (ds := []) #[false, false, false, false, false, false, false, false, false, false, false, false, false, false, false, false, false, false, false, false, false, false] (by kernel_rfl) rfl rfl ⟨(blk_cell BK233.out 0).trans rfl, (blk_cell BK233.out 1).trans rfl, (blk_cell BK233.out 2).trans rfl, (blk_cell BK233.out 3).trans rfl⟩ (fun hHeld => ?_); refine with_tabW hindcastlaw17_awake.tab3 hindcastlaw17_awake.bits3 (fun HT_ HW_ => ?_)
          generalize w20.drew = w21 at HO218 HO221 HO228 HO231 BK233 HB hHeld ⊢
          refine pure_ (i := 0) (N := some 15) (v := ?_) (a' := ?_) #[true, false, false, false, false, false, false, false, false, false, false, false, false, false, false, false, false, false, false, false, false, false] rfl rfl (any_of HT_.out (by kernel_rfl)) (fun _ _ _ h => h) (Or.inl ⟨by rfl, ?_⟩) ?_ ?_
          rotate_left
          · intro w'
            go_simp
            with_reducible rfl
          rotate_left
          · simp only [Act.put, List.setIfInBounds_toArray, List.set_cons_zero, List.set_cons_succ, i64_w, i32_w]
            rfl
          refine pure_ (i := 1) (N := some 16) (v := ?_) (a' := ?_) #[true, true, false, false, false, false, false, false, false, false, false, false, false, false, false, false, false, false, false, false, false, false] rfl rfl (any_of HT_.out (by kernel_rfl)) (fun _ _ _ h => h) (Or.inl ⟨by rfl, ?_⟩) ?_ ?_
          rotate_left
          · intro w'
            go_simp
            with_reducible rfl
          rotate_left
          · simp only [Act.put, List.setIfInBounds_toArray, List.set_cons_zero, List.set_cons_succ, i64_w, i32_w]
            rfl
          refine pure_ (i := 2) (N := some 17) (v := ?_) (a' := ?_) #[true, true, true, false, false, false, false, false, false, false, false, false, false, false, false, false, false, false, false, false, false, false] rfl rfl (any_of HT_.out (by kernel_rfl)) (fun _ _ _ h => h) (Or.inl ⟨by rfl, ?_⟩) ?_ ?_
          rotate_left
          · intro w'
            go_simp
            with_reducible rfl
          rotate_left
          · simp only [Act.put, List.setIfInBounds_toArray, List.set_cons_zero, List.set_cons_succ, i64_w, i32_w]
            rfl
          refine pure_ (i := 3) (N := some 18) (v := ?_) (a' := ?_) #[true, true, true, true, false, false, false, false, false, false, false, false, false, false, false, false, false, false, false, false, false, false] rfl rfl (any_of HT_.out (by kernel_rfl)) (fun _ _ _ h => h) (Or.inl ⟨by rfl, ?_⟩) ?_ ?_
          rotate_left
          · intro w'
            go_simp
            with_reducible rfl
          rotate_left
          · simp only [Act.put, List.setIfInBounds_toArray, List.set_cons_zero, List.set_cons_succ, i64_w, i32_w]
            rfl
          refine pure_ (i := 4) (N := some 19) (v := ?_) (a' := ?_) #[true, true, true, true, true, false, false, false, false, false, false, false, false, false, false, false, false, false, false, false, false, false] rfl rfl (any_of HT_.out (by kernel_rfl)) (fun _ _ _ h => h) (Or.inl ⟨by rfl, ?_⟩) ?_ ?_
          rotate_left
          · intro w'
            go_simp
            with_reducible rfl
          rotate_left
          · simp only [Act.put, List.setIfInBounds_toArray, List.set_cons_zero, List.set_cons_succ, i64_w, i32_w]
            rfl
          refine pure_ (i := 5) (N := some 20) (v := ?_) (a' := ?_) #[true, true, true, true, true, true, false, false, false, false, false, false, false, false, false, false, false, false, false, false, false, false] rfl rfl (any_of HT_.out (by kernel_rfl)) (fun _ _ _ h => h) (Or.inl ⟨by rfl, ?_⟩) ?_ ?_
          rotate_left
          · intro w'
            go_simp
            with_reducible rfl
          rotate_left
          · simp only [Act.put, List.setIfInBounds_toArray, List.set_cons_zero, List.set_cons_succ, i64_w, i32_w]
            rfl
          refine pure_ (i := 6) (N := some 21) (v := ?_) (a' := ?_) #[true, true, true, true, true, true, true, false, false, false, false, false, false, false, false, false, false, false, false, false, false, false] rfl rfl (any_of HT_.out (by kernel_rfl)) (fun _ _ _ h => h) (Or.inl ⟨by rfl, ?_⟩) ?_ ?_
          rotate_left
          · intro w'
            go_simp
            with_reducible rfl
          rotate_left
          · simp only [Act.put, List.setIfInBounds_toArray, List.set_cons_zero, List.set_cons_succ, i64_w, i32_w]
            rfl
          refine pure_ (i := 7) (N := some 22) (v := ?_) (a' := ?_) #[true, true, true, true, true, true, true, true, false, false, false, false, false, false, false, false, false, false, false, false, false, false] rfl rfl (any_of HT_.out (by kernel_rfl)) (fun _ _ _ h => h) (Or.inl ⟨by rfl, ?_⟩) ?_ ?_
          rotate_left
          · intro w'
            go_simp
            with_reducible rfl
          rotate_left
          · simp only [Act.put, List.setIfInBounds_toArray, List.set_cons_zero, List.set_cons_succ, i64_w, i32_w]
            rfl
          refine pure_ (i := 8) (N := some 23) (v := ?_) (a' := ?_) #[true, true, true, true, true, true, true, true, true, false, false, false, false, false, false, false, false, false, false, false, false, false] rfl rfl (any_of HT_.out (by kernel_rfl)) (fun _ _ _ h => h) (Or.inl ⟨by rfl, ?_⟩) ?_ ?_
          rotate_left
          · intro w'
            go_simp
            with_reducible rfl
          rotate_left
          · simp only [Act.put, List.setIfInBounds_toArray, List.set_cons_zero, List.set_cons_succ, i64_w, i32_w]
            rfl
          refine pure_ (i := 9) (N := some 24) (v := ?_) (a' := ?_) #[true, true, true, true, true, true, true, true, true, true, false, false, false, false, false, false, false, false, false, false, false, false] rfl rfl (any_of HT_.out (by kernel_rfl)) (fun _ _ _ h => h) (Or.inl ⟨by rfl, ?_⟩) ?_ ?_
          rotate_left
          · intro w'
            go_simp
            with_reducible rfl
          rotate_left
          · simp only [Act.put, List.setIfInBounds_toArray, List.set_cons_zero, List.set_cons_succ, i64_w, i32_w]
            rfl
          refine pure_ (i := 10) (N := some 25) (v := ?_) (a' := ?_) #[true, true, true, true, true, true, true, true, true, true, true, false, false, false, false, false, false, false, false, false, false, false] rfl rfl (any_of HT_.out (by kernel_rfl)) (fun _ _ _ h => h) (Or.inl ⟨by rfl, ?_⟩) ?_ ?_
          rotate_left
          · intro w'
            go_simp
            with_reducible rfl
          rotate_left
          · simp only [Act.put, List.setIfInBounds_toArray, List.set_cons_zero, List.set_cons_succ, i64_w, i32_w]
            rfl
          refine pure_ (i := 11) (N := some 26) (v := ?_) (a' := ?_) #[true, true, true, true, true, true, true, true, true, true, true, true, false, false, false, false, false, false, false, false, false, false] rfl rfl (any_of HT_.out (by kernel_rfl)) (fun _ _ _ h => h) (Or.inl ⟨by rfl, ?_⟩) ?_ ?_
          rotate_left
          · intro w'
            go_simp
            with_reducible rfl
          rotate_left
          · simp only [Act.put, List.setIfInBounds_toArray, List.set_cons_zero, List.set_cons_succ, i64_w, i32_w]
            rfl
          refine take_ (i := 12) (N := some 27) (v := ?_) (a' := ?_) #[true, true, true, true, true, true, true, true, true, true, true, true, true, false, false, false, false, false, false, false, false, false] rfl rfl (take_ofW HT_.out HW_.out (by kernel_rfl)) (fun _ _ _ h => h) (Or.inl ⟨by rfl, ?_⟩) hHeld ?_ ?_
          rotate_left
          · rintro w' ⟨s0, s1, s2, s3⟩
            go_simp
            with_reducible rfl
          rotate_left
          · simp only [Act.put, List.setIfInBounds_toArray, List.set_cons_zero, List.set_cons_succ, i64_w, i32_w]
            rfl
          refine one_ (i := 13) (N := some 28) #[true, true, true, true, true, true, true, true, true, true, true, true, true, true, false, false, false, false, false, false, false, false] rfl rfl (one_of HT_.out (by kernel_rfl)) (by decide) (fun K hK => ?_)
          refine goes_ Tryz.func7 (by kernel_rfl) rfl #[] (by rfl) rfl rfl (by (try simp only [List.map_toArray, List.map_cons, List.map_nil]); first | done | rfl | (simp only [List.length_drop, List.length_take]; rfl)) ?_
          with_reducible refine (hindcastlaw17_one.calls  t234 t235 t236 t239 _ A7.out).mono ?_
          rintro e w22 ⟨v237, v240, rfl, ho0, ho1, hb⟩
          refine ⟨_, rfl, ?_⟩
          have n0_ := Aside0.mk (Kd.R_elder' (by (with_reducible repeat (first | apply Kd.R_alloc | apply Kd.R_drewN | apply Kd.R_drew)); exact HO218.out) (Kd.R_base ho0) hb)
          have n1_ := Aside0.mk (Kd.R_elder' (by (with_reducible repeat (first | apply Kd.R_alloc | apply Kd.R_drewN | apply Kd.R_drew)); exact HO221.out) (Kd.R_base ho1) hb)
          have n2_ := Aside0.mk (Kd.R_elder' (by (with_reducible repeat (first | apply Kd.R_alloc | apply Kd.R_drewN | apply Kd.R_drew)); exact HO228.out) (Kd.R_base ho0) hb)
          have n3_ := Aside0.mk (Kd.R_elder' (by (with_reducible repeat (first | apply Kd.R_alloc | apply Kd.R_drewN | apply Kd.R_drew)); exact HO231.out) (Kd.R_base ho1) hb)
          have n4_ := Aside0.mk (Kd.R_lower (Kd.R_new' (Kd.R_new' ho0 (Kd.R_lt (by (with_reducible repeat (first | apply Kd.R_alloc | apply Kd.R_drewN | apply Kd.R_drew)); exact HO218.out))) (Kd.R_lt (by (with_reducible repeat (first | apply Kd.R_alloc | apply Kd.R_drewN | apply Kd.R_drew)); exact HO228.out))) (below_size (by repeat (first | (with_reducible first | exact HB.out | apply below_alloc | apply pw_below_drewN | apply below_drew1 | refine below_set ?_ GE233.out) | exact HB.out))))
          have n5_ := Aside0.mk (Kd.R_lower (Kd.R_new' (Kd.R_new' ho1 (Kd.R_lt (by (with_reducible repeat (first | apply Kd.R_alloc | apply Kd.R_drewN | apply Kd.R_drew)); exact HO221.out))) (Kd.R_lt (by (with_reducible repeat (first | apply Kd.R_alloc | apply Kd.R_drewN | apply Kd.R_drew)); exact HO231.out))) (below_size (by repeat (first | (with_reducible first | exact HB.out | apply below_alloc | apply pw_below_drewN | apply below_drew1 | refine below_set ?_ GE233.out) | exact HB.out))))
          have n6_ := Aside0.mk (blk_below (g := gb233) (o := .cells #[.int .u64 t224, .int .u8 t225, .slice Ao18 t226.length co18, .slice Ao19 t229.length co19] 26 (0, 0)) (by (with_reducible repeat (first | refine blk_drewN ?_ _ | refine blk_drew ?_ | refine blk_alloc ?_ _)); exact BK233.out) hb)
          have n7_ := Aside0.mk (below_step (by repeat (first | (with_reducible first | exact HB.out | apply below_alloc | apply pw_below_drewN | apply below_drew1 | refine below_set ?_ GE233.out) | exact HB.out)) hb)
          clear HO218
          clear HO221
          clear HO228
          clear HO231
          clear BK233
          clear HB
          have HO218 := n0_
          have HO221 := n1_
          have HO228 := n2_
          have HO231 := n3_
          have HO238 := n4_
          have HO241 := n5_
          have BK233 := n6_
          have HB := n7_
          clear n0_ n1_ n2_ n3_ n4_ n5_ n6_ n7_
          (try clear hb)
          (try clear hb2)
          (try clear hk)
          (try clear hi)
          (try clear ho0)
          (try clear ho1)
          obtain ⟨Ao23, co23, eo23⟩ := Kd.R_slice HO238.out
          (first | subst eo23 | (injection eo23 with f1_ f2_ f3_; have f4_ := f1_.symm; have f5_ := f3_.symm; clear f1_ f2_ f3_; subst f4_; subst f5_))
          obtain ⟨Ao24, co24, eo24⟩ := Kd.R_slice HO241.out
          (first | subst eo24 | (injection eo24 with f1_ f2_ f3_; have f4_ := f1_.symm; have f5_ := f3_.symm; clear f1_ f2_ f3_; subst f4_; subst f5_))
          refine hK.out _ _ ⟨(blk_cell BK233.out 0).trans rfl, (blk_cell BK233.out 1).trans rfl, (blk_cell BK233.out 2).trans rfl, (blk_cell BK233.out 3).trans rfl⟩ (fun hHeld => ?_)
          clear hK K
          refine norm_ (a' := ?_) ?_ ?_
          rotate_left
          · show Act.put _ (some 28) _ = _
            simp only [Act.put, List.setIfInBounds_toArray, List.set_cons_zero, List.set_cons_succ, i64_w, i32_w]
            rfl
          refine one_ (i := 14) (N := some 29) #[true, true, true, true, true, true, true, true, true, true, true, true, true, true, true, false, false, false, false, false, false, false] rfl rfl (one_of HT_.out (by kernel_rfl)) (by decide) (fun K hK => ?_)
          refine goes_ Tryz.func15 (by kernel_rfl) rfl #[.agg #[.int .u64 t224, .int .u8 t225, .slice Ao18 t226.length co18, .slice Ao19 t229.length co19], .agg #[.int .u64 t234, .int .u8 t235, .slice Ao23 t236.length co23, .slice Ao24 t239.length co24]] (by rfl) rfl rfl (by (try simp only [List.map_toArray, List.map_cons, List.map_nil]); first | done | rfl | (simp only [List.length_drop, List.length_take]; rfl)) ?_
          with_reducible refine (hindcastlaw17_same.calls k t224 t225 _ _ t226 _ _ t229 t234 t235 _ _ t236 _ _ t239 true _ ?side1 ?side2 ?side3 ?side4 ?side5 ?side6 ?side7 ?side8 A8.out).mono ?_
          (case side1 => repeat (first | exact (Kd.R_reads' HO228.out).2.2 | (with_reducible refine Kd.C_alloc ?_ _) | (with_reducible refine Kd.C_drewN ?_ _) | (with_reducible refine Kd.C_drew ?_)))
          (case side2 => exact (Kd.R_reads' HO228.out).2.1)
          (case side3 => repeat (first | exact (Kd.R_reads' HO231.out).2.2 | (with_reducible refine Kd.C_alloc ?_ _) | (with_reducible refine Kd.C_drewN ?_ _) | (with_reducible refine Kd.C_drew ?_)))
          (case side4 => exact (Kd.R_reads' HO231.out).2.1)
          (case side5 => repeat (first | exact (Kd.R_reads' HO238.out).2.2 | (with_reducible refine Kd.C_alloc ?_ _) | (with_reducible refine Kd.C_drewN ?_ _) | (with_reducible refine Kd.C_drew ?_)))
          (case side6 => exact (Kd.R_reads' HO238.out).2.1)
          (case side7 => repeat (first | exact (Kd.R_reads' HO241.out).2.2 | (with_reducible refine Kd.C_alloc ?_ _) | (with_reducible refine Kd.C_drewN ?_ _) | (with_reducible refine Kd.C_drew ?_)))
          (case side8 => exact (Kd.R_reads' HO241.out).2.1)
          rintro e w25 ⟨rfl, hb⟩
          refine ⟨_, rfl, ?_⟩
          have n0_ := Aside0.mk (Kd.R_below (by (with_reducible repeat (first | apply Kd.R_alloc | apply Kd.R_drewN | apply Kd.R_drew)); exact HO218.out) hb)
          have n1_ := Aside0.mk (Kd.R_below (by (with_reducible repeat (first | apply Kd.R_alloc | apply Kd.R_drewN | apply Kd.R_drew)); exact HO221.out) hb)
          have n2_ := Aside0.mk (Kd.R_below (by (with_reducible repeat (first | apply Kd.R_alloc | apply Kd.R_drewN | apply Kd.R_drew)); exact HO228.out) hb)
          have n3_ := Aside0.mk (Kd.R_below (by (with_reducible repeat (first | apply Kd.R_alloc | apply Kd.R_drewN | apply Kd.R_drew)); exact HO231.out) hb)
          have n4_ := Aside0.mk (Kd.R_below (by (with_reducible repeat (first | apply Kd.R_alloc | apply Kd.R_drewN | apply Kd.R_drew)); exact HO238.out) hb)
          have n5_ := Aside0.mk (Kd.R_below (by (with_reducible repeat (first | apply Kd.R_alloc | apply Kd.R_drewN | apply Kd.R_drew)); exact HO241.out) hb)
          have n6_ := Aside0.mk (blk_below (g := gb233) (o := .cells #[.int .u64 t224, .int .u8 t225, .slice Ao18 t226.length co18, .slice Ao19 t229.length co19] 26 (0, 0)) (by (with_reducible repeat (first | refine blk_drewN ?_ _ | refine blk_drew ?_ | refine blk_alloc ?_ _)); exact BK233.out) hb)
          have n7_ := Aside0.mk (below_step (by repeat (first | (with_reducible first | exact HB.out | apply below_alloc | apply pw_below_drewN | apply below_drew1 | refine below_set ?_ GE233.out) | exact HB.out)) hb)
          clear HO218
          clear HO221
          clear HO228
          clear HO231
          clear HO238
          clear HO241
          clear BK233
          clear HB
          have HO218 := n0_
          have HO221 := n1_
          have HO228 := n2_
          have HO231 := n3_
          have HO238 := n4_
          have HO241 := n5_
          have BK233 := n6_
          have HB := n7_
          clear n0_ n1_ n2_ n3_ n4_ n5_ n6_ n7_
          (try clear hb)
          (try clear hb2)
          (try clear hk)
          (try clear hi)
          refine hK.out _ _ ⟨(blk_cell BK233.out 0).trans rfl, (blk_cell BK233.out 1).trans rfl, (blk_cell BK233.out 2).trans rfl, (blk_cell BK233.out 3).trans rfl⟩ (fun hHeld => ?_)
          clear hK K
          refine norm_ (a' := ?_) ?_ ?_
          rotate_left
          · show Act.put _ (some 29) _ = _
            simp only [Act.put, List.setIfInBounds_toArray, List.set_cons_zero, List.set_cons_succ, i64_w, i32_w]
            rfl
          refine pure_ (i := 15) (N := some 30) (v := ?_) (a' := ?_) #[true, true, true, true, true, true, true, true, true, true, true, true, true, true, true, true, false, false, false, false, false, false] rfl rfl (any_of HT_.out (by kernel_rfl)) (fun _ _ _ h => h) (Or.inl ⟨by rfl, ?_⟩) ?_ ?_
          rotate_left
          · intro w'
            go_simp
            with_reducible rfl
          rotate_left
          · simp only [Act.put, List.setIfInBounds_toArray, List.set_cons_zero, List.set_cons_succ, i64_w, i32_w]
            rfl
          refine pure_ (i := 16) (N := some 31) (v := ?_) (a' := ?_) #[true, true, true, true, true, true, true, true, true, true, true, true, true, true, true, true, true, false, false, false, false, false] rfl rfl (any_of HT_.out (by kernel_rfl)) (fun _ _ _ h => h) (Or.inl ⟨by rfl, ?_⟩) ?_ ?_
          rotate_left
          · intro w'
            go_simp
            with_reducible rfl
          rotate_left
          · simp only [Act.put, List.setIfInBounds_toArray, List.set_cons_zero, List.set_cons_succ, i64_w, i32_w]
            rfl
          refine pure_ (i := 17) (N := some 32) (v := ?_) (a' := ?_) #[true, true, true, true, true, true, true, true, true, true, true, true, true, true, true, true, true, true, false, false, false, false] rfl rfl (any_of HT_.out (by kernel_rfl)) (fun _ _ _ h => h) (Or.inl ⟨by rfl, ?_⟩) ?_ ?_
          rotate_left
          · intro w'
            go_simp
            with_reducible rfl
          rotate_left
          · simp only [Act.put, List.setIfInBounds_toArray, List.set_cons_zero, List.set_cons_succ, i64_w, i32_w]
            rfl
          refine one_ (i := 18) (N := some 33) #[true, true, true, true, true, true, true, true, true, true, true, true, true, true, true, true, true, true, true, false, false, false] rfl rfl (one_of HT_.out (by kernel_rfl)) (by decide) (fun K hK => ?_)
          refine goes_ Tryz.func8 (by kernel_rfl) rfl #[.agg #[.int .u64 0, .int .u8 0, .slice none 0 0, .slice none 0 0]] (by rfl) rfl rfl (by (try simp only [List.map_toArray, List.map_cons, List.map_nil]); first | done | rfl | (simp only [List.length_drop, List.length_take]; rfl)) ?_
          refine (manifest_Check.calls k 0 0 _ _ ([] : List (S29)) _ _ ([] : List Int) t243 _ ?side1 ?side2 ?side3 ?side4 A10.out).mono ?_
          (case side1 => exact Kd.C_nil _ _)
          (case side2 => exact Nat.le_refl _)
          (case side3 => exact Kd.C_nil _ _)
          (case side4 => exact Nat.le_refl _)
          rintro e w26 ⟨rfl, hb⟩
          refine ⟨_, rfl, ?_⟩
          have n0_ := Aside0.mk (Kd.R_below (by (with_reducible repeat (first | apply Kd.R_alloc | apply Kd.R_drewN | apply Kd.R_drew)); exact HO218.out) hb)
          have n1_ := Aside0.mk (Kd.R_below (by (with_reducible repeat (first | apply Kd.R_alloc | apply Kd.R_drewN | apply Kd.R_drew)); exact HO221.out) hb)
          have n2_ := Aside0.mk (Kd.R_below (by (with_reducible repeat (first | apply Kd.R_alloc | apply Kd.R_drewN | apply Kd.R_drew)); exact HO228.out) hb)
          have n3_ := Aside0.mk (Kd.R_below (by (with_reducible repeat (first | apply Kd.R_alloc | apply Kd.R_drewN | apply Kd.R_drew)); exact HO231.out) hb)
          have n4_ := Aside0.mk (Kd.R_below (by (with_reducible repeat (first | apply Kd.R_alloc | apply Kd.R_drewN | apply Kd.R_drew)); exact HO238.out) hb)
          have n5_ := Aside0.mk (Kd.R_below (by (with_reducible repeat (first | apply Kd.R_alloc | apply Kd.R_drewN | apply Kd.R_drew)); exact HO241.out) hb)
          have n6_ := Aside0.mk (blk_below (g := gb233) (o := .cells #[.int .u64 t224, .int .u8 t225, .slice Ao18 t226.length co18, .slice Ao19 t229.length co19] 26 (0, 0)) (by (with_reducible repeat (first | refine blk_drewN ?_ _ | refine blk_drew ?_ | refine blk_alloc ?_ _)); exact BK233.out) hb)
          have n7_ := Aside0.mk (below_step (by repeat (first | (with_reducible first | exact HB.out | apply below_alloc | apply pw_below_drewN | apply below_drew1 | refine below_set ?_ GE233.out) | exact HB.out)) hb)
          clear HO218
          clear HO221
          clear HO228
          clear HO231
          clear HO238
          clear HO241
          clear BK233
          clear HB
          have HO218 := n0_
          have HO221 := n1_
          have HO228 := n2_
          have HO231 := n3_
          have HO238 := n4_
          have HO241 := n5_
          have BK233 := n6_
          have HB := n7_
          clear n0_ n1_ n2_ n3_ n4_ n5_ n6_ n7_
          (try clear hb)
          (try clear hb2)
          (try clear hk)
          (try clear hi)
          refine hK.out _ _ ⟨(blk_cell BK233.out 0).trans rfl, (blk_cell BK233.out 1).trans rfl, (blk_cell BK233.out 2).trans rfl, (blk_cell BK233.out 3).trans rfl⟩ (fun hHeld => ?_)
          clear hK K
          refine norm_ (a' := ?_) ?_ ?_
          rotate_left
          · show Act.put _ (some 33) _ = _
            simp only [Act.put, List.setIfInBounds_toArray, List.set_cons_zero, List.set_cons_succ, i64_w, i32_w]
            rfl
          refine pure_ (i := 19) (N := some 34) (v := ?_) (a' := ?_) #[true, true, true, true, true, true, true, true, true, true, true, true, true, true, true, true, true, true, true, true, false, false] rfl rfl (any_of HT_.out (by kernel_rfl)) (fun _ _ _ h => h) (Or.inl ⟨by rfl, ?_⟩) ?_ ?_
          rotate_left
          · intro w'
            go_simp
            with_reducible rfl
          rotate_left
          · simp only [Act.put, List.setIfInBounds_toArray, List.set_cons_zero, List.set_cons_succ, i64_w, i32_w]
            rfl
          refine pure_ (i := 20) (N := some 35) (v := ?_) (a' := ?_) #[true, true, true, true, true, true, true, true, true, true, true, true, true, true, true, true, true, true, true, true, true, false] rfl rfl (any_of HT_.out (by kernel_rfl)) (fun _ _ _ h => h) (Or.inl ⟨by rfl, ?_⟩) ?_ ?_
          rotate_left
          · intro w'
            go_simp
            with_reducible rfl
          rotate_left
          · simp only [Act.put, List.setIfInBounds_toArray, List.set_cons_zero, List.set_cons_succ, i64_w, i32_w]
            rfl
          refine pure_ (i := 21) (N := some 0) (v := ?_) (a' := ?_) #[true, true, true, true, true, true, true, true, true, true, true, true, true, true, true, true, true, true, true, true, true, true] rfl rfl (any_of HT_.out (by kernel_rfl)) (fun _ _ _ h => h) (Or.inl ⟨by rfl, ?_⟩) ?_ ?_
          rotate_left
          · intro w'
            go_simp
            with_reducible rfl
          rotate_left
          · simp only [Act.put, List.setIfInBounds_toArray, List.set_cons_zero, List.set_cons_succ, i64_w, i32_w]
            rfl
          refine done_ (done_of HT_.out (by kernel_rfl)) ?_
          try go_wp2
          go_ret
          exact ⟨by first | rfl | (simp [errW_none, errW_some] <;> rfl) | (simp [*, errW_none, errW_some] <;> rfl), by repeat (first | (with_reducible first | exact HB.out | apply below_alloc | apply pw_below_drewN | apply below_drew1 | refine below_set ?_ GE233.out) | exact HB.out)⟩
        · replace c9 := Bool.eq_false_iff.mpr c9
          subst c9
          have H1 : (none) = some r := by rw [if_neg (show ¬ (false = true) by decide)] at H; exact H
          exact absurd H1 (by simp)
      · rw [if_neg c6] at H
        exact absurd H (by simp)
    · rw [if_neg c5] at H
      exact absurd H (by simp)
  · rw [if_neg c4] at H
    exact absurd H (by simp)
end Go.Proofs.YtbffgpfkgmhmhaaGreatDoor.HM
/- Plain laws: what is put is taken as what it was; what is taken has that text. -/
set_option linter.unusedVariables false
namespace Go.Proofs.YtbffgpfkgmhmhaaGreatDoor.PT
open Go.RowKit Go.Proofs.YtbffgpfkgmhmhaaGreatDoor.HM Go.Proofs.YtbffgpfkgmhmhaaGreatDoorW.PrintWords Go.Proofs.YtbffgpfkgmhmhaaGreatDoorW.PrintLast Go.Proofs.YtbffgpfkgmhmhaaGreatDoorW.PrintMore
open Go.Proofs.YtbffgpfkgmhmhaaGreatDoor.PB Go.Proofs.YtbffgpfkgmhmhaaGreatDoor.PM
/-! ### put, then read -/
theorem enc_le_len (n : Int) (w : Nat) : (enc (Wr.leBytes n w)).length = w := by rw [enc_len, Wr.leBytes_len]
theorem g_enc (w : Nat) (n : Int) (h0 : 0 ≤ n) (h1 : n < ((256 ^ w : Nat) : Int)) (l : List UInt8) : g w (some (enc (Wr.leBytes n w) ++ l)) = (n, some l) := by
  obtain ⟨m, rfl⟩ := Int.eq_ofNat_of_zero_le h0
  have hl := enc_le_len (m : Int) w
  rw [g_yes w _ (by rw [List.length_append, hl]; omega), List.take_left' hl, List.drop_left' hl, num_le w m (by omega)]
theorem g_enc8 (n : Int) (h : 0 ≤ n ∧ n < 18446744073709551616) (l : List UInt8) : g 8 (some (enc (Wr.leBytes n 8) ++ l)) = (n, some l) := g_enc 8 n h.1 (by rw [show ((256 ^ 8 : Nat) : Int) = 18446744073709551616 from rfl]; exact h.2) l
theorem g_enc1 (n : Int) (h0 : 0 ≤ n) (h1 : n < 256) (l : List UInt8) : g 1 (some (enc (Wr.leBytes n 1) ++ l)) = (n, some l) := g_enc 1 n h0 (by rw [show ((256 ^ 1 : Nat) : Int) = 256 from rfl]; exact h1) l
theorem parts_enc (l2 : List S29) (ho : ∀ x ∈ l2, 0 ≤ x.f0 ∧ x.f0 < 18446744073709551616 ∧ 0 ≤ x.f1 ∧ x.f1 < 18446744073709551616) (L : List UInt8) : parts l2.length (some (enc (payS l2) ++ L)) = (l2, some L) := by
  induction l2 with
  | nil => rfl
  | cons x l2 ih =>
    obtain ⟨a, b, c, d⟩ := ho x List.mem_cons_self
    have e : enc (payS (x :: l2)) ++ L = enc (Wr.leBytes x.f0 8) ++ (enc (Wr.leBytes x.f1 8) ++ (enc (payS l2) ++ L)) := by
      simp [payS, enc_append]
    rw [e]
    show (⟨(g 8 _).1, (g 8 (g 8 _).2).1⟩ :: (parts l2.length (g 8 (g 8 _).2).2).1, (parts l2.length (g 8 (g 8 _).2).2).2) = _
    rw [g_enc8 _ ⟨a, b⟩]
    dsimp only
    rw [g_enc8 _ ⟨c, d⟩]
    dsimp only
    rw [ih (fun y hy => ho y (List.mem_cons_of_mem _ hy))]
theorem words_enc (l3 : List Int) (ho : ∀ x ∈ l3, 0 ≤ x ∧ x < 18446744073709551616) (L : List UInt8) : words l3.length (some (enc (payC l3) ++ L)) = (l3, some L) := by
  induction l3 with
  | nil => rfl
  | cons x l3 ih =>
    have e : enc (payC (x :: l3)) ++ L = enc (Wr.leBytes x 8) ++ (enc (payC l3) ++ L) := by simp [payC, enc_append]
    rw [e]
    show ((g 8 _).1 :: (words l3.length (g 8 _).2).1, (words l3.length (g 8 _).2).2) = _
    rw [g_enc8 _ (ho x List.mem_cons_self)]
    dsimp only
    rw [ih (fun y hy => ho y (List.mem_cons_of_mem _ hy))]
theorem tell_pay (e p : Int) (l2 : List S29) (l3 : List Int) (he : 0 ≤ e ∧ e < 18446744073709551616) (hp : 0 ≤ p ∧ p < 256) (ho : okNums l2 l3) (h2 : l2.length ≤ 13) (h3 : l3.length ≤ 3) :
    tell (enc (payN e p l2 l3)) = ⟨e, p, l2, l3, some []⟩ := by
  have E : enc (payN e p l2 l3) = enc (Wr.leBytes e 8) ++ (enc (Wr.leBytes p 1) ++ (enc (Wr.leBytes (l2.length : Int) 1) ++ (enc (payS l2) ++ (enc (Wr.leBytes (l3.length : Int) 1) ++ (enc (payC l3) ++ []))))) := by
    unfold payN
    simp [enc_append]
  have c2 : lim 13 (l2.length : Int) = l2.length := by unfold lim; omega
  have c3 : lim 3 (l3.length : Int) = l3.length := by unfold lim; omega
  unfold tell
  rw [E, g_enc8 e he]
  dsimp only
  rw [g_enc1 p hp.1 hp.2]
  dsimp only
  rw [g_enc1 (l2.length : Int) (by omega) (by omega)]
  dsimp only
  rw [c2, parts_enc l2 ho.1]
  dsimp only
  rw [g_enc1 (l3.length : Int) (by omega) (by omega)]
  dsimp only
  rw [c3, words_enc l3 ho.2]
theorem next_frame (a : List UInt8) (ha : a.length ≤ 4096) : nextN (enc (headN (bs a)) ++ a) = (a, ((6 + a.length : Nat) : Int), 0) := by
  have hs : (bs a).size = a.length := bs_size a
  have h2 := updN_lt 0 (strOfNums (Wr.leBytes (a.length : Int) 2) ++ bs a) (by decide)
  have E : enc (headN (bs a)) ++ a = enc (Wr.leBytes (a.length : Int) 2) ++ (enc (Wr.leBytes ((updN 0 (strOfNums (Wr.leBytes (a.length : Int) 2) ++ bs a) : Nat) : Int) 4) ++ a) := by
    unfold headN
    rw [hs, enc_append, List.append_assoc]
  have l2 := enc_le_len (a.length : Int) 2
  have l4 := enc_le_len ((updN 0 (strOfNums (Wr.leBytes (a.length : Int) 2) ++ bs a) : Nat) : Int) 4
  have t2 : (enc (headN (bs a)) ++ a).take 2 = enc (Wr.leBytes (a.length : Int) 2) := by rw [E, List.take_left' l2]
  have d2 : (enc (headN (bs a)) ++ a).drop 2 = enc (Wr.leBytes ((updN 0 (strOfNums (Wr.leBytes (a.length : Int) 2) ++ bs a) : Nat) : Int) 4) ++ a := by rw [E, List.drop_left' l2]
  have d6 : (enc (headN (bs a)) ++ a).drop 6 = a := by
    rw [show 6 = 2 + 4 from rfl, ← List.drop_drop, d2, List.drop_left' l4]
  have len : (enc (headN (bs a)) ++ a).length = 6 + a.length := by rw [E, List.length_append, List.length_append, l2, l4]; omega
  have n2 : numN (enc (Wr.leBytes (a.length : Int) 2)) = a.length := num_le 2 a.length (by omega)
  have n4 : numN (enc (Wr.leBytes ((updN 0 (strOfNums (Wr.leBytes (a.length : Int) 2) ++ bs a) : Nat) : Int) 4)) = updN 0 (strOfNums (Wr.leBytes (a.length : Int) 2) ++ bs a) := num_le 4 _ (by omega)
  unfold nextN sumOf
  rw [len, t2, d2, d6, n2, List.take_left' l4, n4, List.take_length, updN_append, ← str_bs]
  rw [if_neg (by omega), if_neg (by omega), if_neg (by omega), if_neg (by simp)]
theorem take_put (e p : Int) (l2 : List S29) (l3 : List Int) (he : 0 ≤ e ∧ e < 18446744073709551616) (hp : 0 ≤ p ∧ p < 256) (ho : okNums l2 l3) (h : okB e p l2 l3 = true) :
    takeN (enc (headN (bs (enc (payN e p l2 l3)))) ++ enc (payN e p l2 l3)) = (e, p, l2, l3, 0) := by
  have h' := h
  unfold okB at h'
  simp only [Bool.and_eq_true, decide_eq_true_eq] at h'
  obtain ⟨_, _, _, q2, q3, _⟩ := h'
  have hl : (enc (payN e p l2 l3)).length ≤ 4096 := by rw [enc_len, payN_len]; omega
  unfold takeN
  rw [next_frame _ hl, if_pos rfl]
  dsimp only
  rw [tell_pay e p l2 l3 he hp ho (by omega) (by omega)]
  have len : (enc (headN (bs (enc (payN e p l2 l3)))) ++ enc (payN e p l2 l3)).length = 6 + (enc (payN e p l2 l3)).length := by
    rw [List.length_append, enc_len (headN _)]
    unfold headN
    rw [List.length_append, Wr.leBytes_len, Wr.leBytes_len]
  rw [if_pos ⟨by rw [len], rfl, h⟩]
/-! ### the same -/
theorem same1 (e p e' p' : Int) (l2 : List S29) (l3 : List Int) (h3 : l3.length ≤ 100) (d : Nat) : ∀ (k i : Nat), i + d = l3.length → d < k → hindcastlaw17_same.l1 k (i : Int) e p l2 l3 e' p' l2 l3 = some true := by
  induction d with
  | zero =>
    intro k i hd hk
    obtain ⟨k, rfl⟩ : ∃ m, k = m + 1 := ⟨k - 1, by omega⟩
    simp only [hindcastlaw17_same.l1]
    rw [if_neg (by omega)]
  | succ d ih =>
    intro k i hd hk
    obtain ⟨k, rfl⟩ : ∃ m, k = m + 1 := ⟨k - 1, by omega⟩
    have hw : wrap64 ((i : Int) + 1) = ((i + 1 : Nat) : Int) := by unfold wrap64; omega
    simp only [hindcastlaw17_same.l1]
    rw [if_pos (by omega), if_pos (by omega), if_pos (by omega), if_pos trivial, hw]
    exact ih k (i + 1) (by omega) (by omega)
theorem same0 (e p e' p' : Int) (l2 : List S29) (l3 : List Int) (h2 : l2.length ≤ 100) (h3 : l3.length ≤ 100) (d : Nat) : ∀ (k i : Nat), i + d = l2.length → d + 200 < k → hindcastlaw17_same.l0 k (i : Int) e p l2 l3 e' p' l2 l3 = some true := by
  induction d with
  | zero =>
    intro k i hd hk
    obtain ⟨k, rfl⟩ : ∃ m, k = m + 1 := ⟨k - 1, by omega⟩
    simp only [hindcastlaw17_same.l0]
    rw [if_neg (by omega)]
    exact same1 e p e' p' l2 l3 h3 l3.length k 0 (by omega) (by omega)
  | succ d ih =>
    intro k i hd hk
    obtain ⟨k, rfl⟩ : ∃ m, k = m + 1 := ⟨k - 1, by omega⟩
    have hw : wrap64 ((i : Int) + 1) = ((i + 1 : Nat) : Int) := by unfold wrap64; omega
    simp only [hindcastlaw17_same.l0]
    rw [if_pos (by omega), if_pos (by omega), if_pos (by omega), if_neg (by simp), hw]
    exact ih k (i + 1) (by omega) (by omega)
theorem same_f (e p : Int) (l2 : List S29) (l3 : List Int) (h2 : l2.length ≤ 100) (h3 : l3.length ≤ 100) (k : Nat) (hk : 1000 < k) : hindcastlaw17_same.f k e p l2 l3 e p l2 l3 = some true := by
  obtain ⟨k, rfl⟩ : ∃ m, k = m + 1 := ⟨k - 1, by omega⟩
  unfold hindcastlaw17_same.f
  have hz : ((l3.length : Int) != (l3.length : Int)) = false := by simp
  rw [if_pos rfl, if_pos rfl, if_pos rfl, hz]
  simp only [hindcastlaw17_same.j0]
  rw [if_neg (by decide)]
  exact same0 e p e p l2 l3 h2 h3 l2.length k 0 (by omega) (by omega)
end Go.Proofs.YtbffgpfkgmhmhaaGreatDoor.PT
-- out of the translation's print, by a program and by hand (wip/tools/hp.py)
namespace Go.Proofs.YtbffgpfkgmhmhaaGreatDoor.HM
open Go.RowKit Go.Proofs.YtbffgpfkgmhmhaaGreatDoorW.PrintWords Go.Proofs.YtbffgpfkgmhmhaaGreatDoorW.PrintLast Go.Proofs.YtbffgpfkgmhmhaaGreatDoorW.PrintMore
attribute [local go_sem] max2_int min2_int max_two min_two max_three min_three max_four min_four   -- for this text's walks alone
set_option linter.unusedVariables false
set_option linter.unusedSimpArgs false
end Go.Proofs.YtbffgpfkgmhmhaaGreatDoor.HM
-- out of the translation's print, by a program and by hand (wip/tools/hp.py)
namespace Go.Proofs.YtbffgpfkgmhmhaaGreatDoor.HM
open Go.RowKit Go.Proofs.YtbffgpfkgmhmhaaGreatDoorW.PrintWords Go.Proofs.YtbffgpfkgmhmhaaGreatDoorW.PrintLast Go.Proofs.YtbffgpfkgmhmhaaGreatDoorW.PrintMore
attribute [local go_sem] max2_int min2_int max_two min_two max_three min_three max_four min_four   -- for this text's walks alone
set_option linter.unusedVariables false
set_option linter.unusedSimpArgs false
end Go.Proofs.YtbffgpfkgmhmhaaGreatDoor.HM
/- manifest.Swap, Load, the law's loads (functions 13, 36, 10). Printed by sygen.py. -/
set_option linter.unusedVariables false
set_option linter.unusedSimpArgs false
namespace Go.Proofs.Dk
open Go.Proofs.YtbffgpfkgmhmhaaGreatDoor.Dw
theorem seq_snoc (l : List (PS → PS × Nat)) (f : PS → PS × Nat) : ∀ s : PS, seqS (l ++ [f]) s = if (seqS l s).2 = 0 then f (seqS l s).1 else seqS l s := by
  induction l with
  | nil =>
    intro s
    simp only [List.nil_append, seqS, if_true]
    split
    · rename_i h; exact Prod.ext rfl h.symm
    · rfl
  | cons g r ih =>
    intro s
    rw [List.cons_append]
    have e : ∀ q : List (PS → PS × Nat), seqS (g :: q) s = if (g s).2 = 0 then seqS q (g s).1 else g s := fun _ => rfl
    by_cases h : (g s).2 = 0
    · rw [e, e, if_pos h, if_pos h]; exact ih _
    · rw [e, e, if_neg h, if_neg h, if_neg h]
theorem seq_stop (l r : List (PS → PS × Nat)) : ∀ s : PS, (seqS l s).2 ≠ 0 → seqS (l ++ r) s = seqS l s := by
  induction l with
  | nil => intro s h; exact absurd rfl h
  | cons g l ih =>
    intro s h
    simp only [List.cons_append, seqS] at h ⊢
    split
    · rename_i h0; rw [if_pos h0] at h; exact ih _ h
    · rfl
theorem seq_take {l : List (PS → PS × Nat)} {i : Nat} (hi : i < l.length) {s s1 : PS} (h : seqS (l.take i) s = (s1, 0)) : seqS (l.take (i + 1)) s = l[i] s1 := by
  rw [List.take_succ_eq_append_getElem hi, seq_snoc, h]
  rfl
theorem seq_end {l : List (PS → PS × Nat)} {i : Nat} (hi : i < l.length) {s s1 : PS} (h : seqS (l.take i) s = (s1, 0)) (hz : (l[i] s1).2 ≠ 0) : seqS l s = l[i] s1 := by
  have h1 := seq_take hi h
  have h2 := seq_stop (l.take (i + 1)) (l.drop (i + 1)) s (by rw [h1]; exact hz)
  rw [List.take_append_drop] at h2
  rw [h2, h1]
end Go.Proofs.Dk
namespace Go.Proofs.YtbffgpfkgmhmhaaGreatDoor.Dw
open Go.RowKit Go.Maps Go.Proofs.YtbffgpfkgmhmhaaGreatDoor.HM Go.Proofs.YtbffgpfkgmhmhaaGreatDoorW.PrintWords Go.Proofs.YtbffgpfkgmhmhaaGreatDoorW.PrintLast Go.Proofs.YtbffgpfkgmhmhaaGreatDoorW.PrintMore Go.Proofs.Dk
set_option maxRecDepth 100000
def mtext (e p : Int) (l2 : List S29) (l3 : List Int) : Tx := (PM.textN e p l2 l3).data.toList
theorem mtext_bs (e p : Int) (l2 : List S29) (l3 : List Int) : PM.textN e p l2 l3 = bs (mtext e p l2 l3) := by
  apply ByteArray.ext
  unfold bs mtext
  rfl
theorem mtext_len {e p : Int} {l2 : List S29} {l3 : List Int} (h : PM.okB e p l2 l3 = true) : (mtext e p l2 l3).length ≤ 1000 := by
  unfold PM.okB at h
  simp only [Bool.and_eq_true, decide_eq_true_eq] at h
  obtain ⟨_, _, _, q2, q3, _⟩ := h
  have h1 : (PM.textN e p l2 l3).size = 6 + (payN e p l2 l3).length := by
    unfold PM.textN PB.frameN
    rw [ByteArray.size_append, PB.str_len, PB.str_len]
    unfold PB.headN
    rw [List.length_append, Wr.leBytes_len, Wr.leBytes_len]
  have h2 : (mtext e p l2 l3).length = (PM.textN e p l2 l3).size := by
    unfold mtext
    rw [Array.length_toList]
    rfl
  rw [h2, h1]
  rw [PM.payN_len]
  omega
theorem TurnP.cell {W wr : World} {k : PW} {L L1 : Lf} (h : TurnP W wr k L L1) {b j : Nat} {v : Value} (hc : W.cell? ⟨b, j, none⟩ = some v) (hm : k.mb < b) (hp : k.pb < b) (hf : ∀ r ∈ L, r.2.1 < b) : wr.cell? ⟨b, j, none⟩ = some v :=
  (cell_of_block (h.apt b (cell_lt hc) (by omega) (by omega) (fun p hp2 e => by have := hf p hp2; omega))).trans hc
theorem IsP.lts {w : World} {k : PW} {L : Lf} {c : PC} (h : IsP w k L c) : k.mb < w.heap.size ∧ k.pb < w.heap.size ∧ ∀ r ∈ L, r.2.1 < w.heap.size := by
  refine ⟨?_, heap_lt h.top, fun r hr => heap_lt (h.disk.file r hr)⟩
  obtain ⟨es, clock, hb, _⟩ := h.disk.map
  exact heap_lt hb
theorem cells5 {w : World} {g : Nat} {a b c d e : Value} {t : TypeId} {fr : Nat × Nat} (h : w.heap[g]? = some (.cells #[a, b, c, d, e] t fr)) :
    w.cell? ⟨g, 0, none⟩ = some a ∧ w.cell? ⟨g, 1, none⟩ = some b ∧ w.cell? ⟨g, 2, none⟩ = some c ∧ w.cell? ⟨g, 3, none⟩ = some d ∧ w.cell? ⟨g, 4, none⟩ = some e :=
  ⟨by simp [World.cell?, h], by simp [World.cell?, h], by simp [World.cell?, h], by simp [World.cell?, h], by simp [World.cell?, h]⟩
theorem five (i : Nat) (h : i < 5) : i = 0 ∨ i = 1 ∨ i = 2 ∨ i = 3 ∨ i = 4 := by omega
set_option maxHeartbeats 4000000 in
theorem swap_bad (w : World) (P : Option Addr) (e p : Int) (A2 : Option Addr) (c2 : Nat) (l2 : List S29) (A3 : Option Addr) (c3 : Nat) (l3 : List Int) (he : 0 ≤ e ∧ e < 18446744073709551616) (hp : 0 ≤ p ∧ p < 256) (ho : PM.okNums l2 l3) (h2 : l2.length ≤ 50) (h3 : l3.length ≤ 50)
    (hr2 : Kd.C k29 w A2 l2.length l2) (hc2 : l2.length ≤ c2) (hr3 : Kd.C (Kd.int .u64) w A3 l3.length l3) (hc3 : l3.length ≤ c3) (hL : Crc.Laid w) (ok : ¬ PM.okB e p l2 l3 = true) :
    Calls Tryz.prog 13 #[.pointer P, .agg #[.int .u64 e, .int .u8 p, .slice A2 l2.length c2, .slice A3 l3.length c3]] w fun e w' => e = .returned (.int .i64 4) ∧ Below w.heap.size w w' := by
  have HPu := PM.put_f e p l2 l3 he hp ho h2 h3 100001 (by decide)
  rw [if_neg ok] at HPu
  have hu26 := Tryz.underlying26
  have HB1 := Lib.hid ((Below.refl w.heap.size w).alloc (Nat.le_refl _) (.cells #[.int .u64 e, .int .u8 p, .slice A2 l2.length c2, .slice A3 l3.length c3] 26))
  have HPut := Lib.hid (HM.manifest_Put.calls 100001 e p A2 c2 l2 A3 c3 l3 _ _ (w.alloc (.cells #[.int .u64 e, .int .u8 p, .slice A2 l2.length c2, .slice A3 l3.length c3] 26)) (Kd.C_alloc hr2 _) hc2 (Kd.C_alloc hr3 _) hc3 HPu ⟨Crc.laid_alloc hL _⟩)
  clear HPu hr2 hr3 hL ok ho
  go_enter Tryz.func13, Tryz.ntmps13
  go_wp2_with fail
  go_step3
  go_wp2_with fail
  refine HPut.out.mono ?_
  rintro e_ w2 ⟨rfl, hB2⟩
  have HB2 := Lib.hid (HB1.out.trans (hB2.mono HB1.out.size))
  clear hB2
  go_wp2_with fail
  rw [Exit.noGoto_ret]
  go_ret
  exact ⟨rfl, HB2.out⟩
set_option maxHeartbeats 8000000 in
theorem swap_calls (w : World) {k : PW} {L : Lf} {s : PS} (h : IsP w k L (pcOf s)) (hl : fs L = s.l) (hwr : s.wr < 900000000) (hfu : -9223372036854775808 ≤ k.fuse ∧ k.fuse ≤ 9223372036854775807)
    (e p : Int) (A2 : Option Addr) (c2 : Nat) (l2 : List S29) (A3 : Option Addr) (c3 : Nat) (l3 : List Int) (he : 0 ≤ e ∧ e < 18446744073709551616) (hp : 0 ≤ p ∧ p < 256) (ho : PM.okNums l2 l3)
    (hr2 : Kd.C k29 w A2 l2.length l2) (hc2 : l2.length ≤ c2) (hr3 : Kd.C (Kd.int .u64) w A3 l3.length l3) (hc3 : l3.length ≤ c3) (hL : Crc.Laid w) (ok : PM.okB e p l2 l3 = true) :
    Calls Tryz.prog 13 #[.pointer (some ⟨k.pb, 0, none⟩), .agg #[.int .u64 e, .int .u8 p, .slice A2 l2.length c2, .slice A3 l3.length c3]] w (DidP w k L (swapS k.q k.fuse k.keep (mtext e p l2 l3) s)) := by
  have hT := mtext_len ok
  have ok' := ok
  unfold PM.okB at ok'
  simp only [Bool.and_eq_true, decide_eq_true_eq] at ok'
  obtain ⟨_, _, _, q2, q3, _⟩ := ok'
  have HPu := PM.put_f e p l2 l3 he hp ho (by omega) (by omega) 100001 (by decide)
  rw [if_pos ok, mtext_bs] at HPu
  have hu26 := Tryz.underlying26
  have hu98 := Tryz.underlying98
  have HB1 := Lib.hid ((Below.refl w.heap.size w).alloc (Nat.le_refl _) (.cells #[.int .u64 e, .int .u8 p, .slice A2 l2.length c2, .slice A3 l3.length c3] 26))
  have HPut := Lib.hid (HM.manifest_Put.calls 100001 e p A2 c2 l2 A3 c3 l3 _ _ (w.alloc (.cells #[.int .u64 e, .int .u8 p, .slice A2 l2.length c2, .slice A3 l3.length c3] 26)) (Kd.C_alloc hr2 _) hc2 (Kd.C_alloc hr3 _) hc3 HPu ⟨Crc.laid_alloc hL _⟩)
  have HP := Lib.hid h
  have HL := Lib.hid hl
  generalize mtext e p l2 l3 = t at *
  have HTt := Lib.hid hT
  have HW := Lib.hid hwr
  have hsz := Lib.hid h.size
  clear HPu hr2 hr3 hL ok ho q2 q3 h hl hT hwr
  go_enter Tryz.func13, Tryz.ntmps13
  go_wp2_with fail
  go_step3
  go_wp2_with fail
  refine HPut.out.mono ?_
  rintro e_ w2 ⟨rfl, hB2⟩
  have HB2 := Lib.hid (HB1.out.trans (hB2.mono HB1.out.size))
  clear hB2
  have HP2 := Lib.hid (HP.out.below HB2.out)
  go_wp2_with fail
  refine (newname_calls w2 Dk.mn (by decide)).mono ?_
  rintro e w3 ⟨rfl, hw3⟩
  obtain rfl := hw3.symm
  rw [show Dk.mn ++ [46, 110, 101, 119] = mnew from rfl]
  go_wp2_with fail
  go_step3
  go_wp2_with fail
  obtain ⟨sv, hsv⟩ : ∃ sv, svOf (some ⟨k.pb, 0, none⟩) t = sv := ⟨_, rfl⟩
  have hsv2 : Value.agg #[.pointer (some ⟨k.pb, 0, none⟩), .string (bs mnew), .string (bs t)] = sv := hsv
  simp only [hsv2]
  have HB3 := Lib.hid (((Below.refl w2.heap.size w2).alloc (Nat.le_refl _) (.cells #[.pointer (some ⟨k.pb, 0, none⟩), .string (bs mnew), .string (bs t)] 98)).alloc (by simp) (.cells #[.func (.func 47) #[sv] #[], .func (.func 48) #[sv] #[], .func (.func 49) #[sv] #[], .func (.func 50) #[sv] #[], .func (.func 51) #[sv] #[]] 95))
  have HC := Lib.hid (cells5 (heap_alloc_new (w2.alloc (.cells #[.pointer (some ⟨k.pb, 0, none⟩), .string (bs mnew), .string (bs t)] 98)) (.cells #[.func (.func 47) #[sv] #[], .func (.func 48) #[sv] #[], .func (.func 49) #[sv] #[], .func (.func 50) #[sv] #[], .func (.func 51) #[sv] #[]] 95)))
  rw [World.size_alloc] at HC
  have HSv := Lib.hid hsv
  clear hsv hsv2
  have HLt := Lib.hid HP2.out.lts
  have HPw := Lib.hid (HP2.out.below HB3.out)
  have HBw := Lib.hid (HB2.out.trans (HB3.out.mono HB2.out.size))
  have HTw := Lib.hid (TurnP.of_below HBw.out k L)
  generalize ((w2.alloc (.cells #[.pointer (some ⟨k.pb, 0, none⟩), .string (bs mnew), .string (bs t)] 98)).alloc (.cells #[.func (.func 47) #[sv] #[], .func (.func 48) #[sv] #[], .func (.func 49) #[sv] #[], .func (.func 50) #[sv] #[], .func (.func 51) #[sv] #[]] 95)) = W1 at *
  generalize hb5 : w2.heap.size + 1 = b5 at *
  have HLb : RowKit.Hid (k.mb < b5 ∧ k.pb < b5 ∧ ∀ r ∈ L, r.2.1 < b5) := Lib.hid (by obtain ⟨a, b, c⟩ := HLt.out; exact ⟨by omega, by omega, fun r hr => by have := c r hr; omega⟩)
  clear hb5 HP HPut HB1 HB2 HB3 HP2 HLt
  have HSt := Lib.hid (show (swapSteps k.q k.fuse k.keep t).length = 5 from rfl)
  go_loopw [4, 33] (fun t4 t33 wr => ∃ (i : Nat) (s1 : PS) (L1 : Lf), i ≤ 5 ∧ t33 = .int .i64 i ∧ t4 = .int .i64 0 ∧ seqS ((swapSteps k.q k.fuse k.keep t).take i) s = (s1, 0) ∧ s1.wr ≤ s.wr + i ∧ fs L1 = s1.l ∧ IsP wr k L1 (pcOf s1) ∧ Below k.base W1 wr ∧ TurnP W1 wr k L L1) (fun t4 t33 _ => 5 - (intOf t33).toNat)
  case atStart => exact ⟨0, s, L, Nat.zero_le _, rfl, rfl, rfl, Nat.le_refl _, HL.out, HPw.out, Below.refl _ _, .of_below (Below.refl _ _) k L⟩
  case round =>
    obtain ⟨i, s1, L1, hi, rfl, rfl, hs1, hw1, hL1, hP1, hB1, hT1⟩ := hrel
    have HS1 := Lib.hid hs1
    have HL1 := Lib.hid hL1
    have HP1 := Lib.hid hP1
    have HB1 := Lib.hid hB1
    have HT1 := Lib.hid hT1
    have hwb : s1.wr < 1000000000 := by have := HW.out; omega
    have HWr := Lib.hid hw1
    clear hs1 hL1 hP1 hB1 hT1 hw1
    by_cases hlt : i < 5
    · have hltb : decide ((i : Int) < 5) = true := decide_eq_true (by omega)
      rcases five i hlt with rfl | rfl | rfl | rfl | rfl
      · have hc := HT1.out.cell (HC.out.1) HLb.out.1 HLb.out.2.1 HLb.out.2.2
        have HK := Lib.hid (sclear_calls wr HP1.out HL1.out hwb hfu t)
        rw [HSv.out] at HK
        have HSn := Lib.hid (show seqS ((swapSteps k.q k.fuse k.keep t).take 1) s = (clearS k.fuse k.keep) s1 from seq_take (l := swapSteps k.q k.fuse k.keep t) (i := 0) (by have := HSt.out; omega) HS1.out)
        have HEn := Lib.hid (show ((clearS k.fuse k.keep) s1).2 ≠ 0 → swapS k.q k.fuse k.keep t s = (clearS k.fuse k.keep) s1 from fun hz => seq_end (l := swapSteps k.q k.fuse k.keep t) (i := 0) (by have := HSt.out; omega) HS1.out hz)
        have HWn := Lib.hid (show ((clearS k.fuse k.keep) s1).1.wr ≤ s1.wr + 1 from clear_wr _ _ _)
        go_wp2_with fail
        refine HK.out.mono ?_
        rintro e5 w5 ⟨rfl, hB5, L5, hL5, hP5, hT5⟩
        have HB5 := Lib.hid (HB1.out.trans hB5)
        have HP5 := Lib.hid hP5
        have HL5 := Lib.hid hL5
        have HT5 := Lib.hid (HT1.out.trans hT5)
        clear hB5 hP5 hL5 hT5 HK hc
        generalize (clearS k.fuse k.keep) s1 = r at *
        obtain ⟨s2, z⟩ := r
        by_cases hz : z = 0
        · subst hz
          go_wp2_with fail
          go_roundw
          case rel => exact ⟨1, s2, L5, by omega, rfl, rfl, HSn.out, by have h1 : s2.wr ≤ s1.wr + 1 := HWn.out; have := HWr.out; omega, HL5.out, HP5.out, HB5.out, HT5.out⟩
          case measure => decide
        · have hzb : ((z : Int) != 0) = true := by simp; omega
          have HEn := Lib.hid (HEn.out hz)
          go_wp2_with fail
          rw [Exit.noGoto_ret]
          go_ret
          rw [HEn.out]
          exact ⟨rfl, (HBw.out.mono hsz.out).trans HB5.out, L5, HL5.out, HP5.out, HTw.out.trans HT5.out⟩
      · have hc := HT1.out.cell (HC.out.2.1) HLb.out.1 HLb.out.2.1 HLb.out.2.2
        have HK := Lib.hid (screate_calls wr HP1.out HL1.out hwb hfu t)
        rw [HSv.out] at HK
        have HSn := Lib.hid (show seqS ((swapSteps k.q k.fuse k.keep t).take 2) s = (pw k.fuse k.keep (fun l => create l mnew)) s1 from seq_take (l := swapSteps k.q k.fuse k.keep t) (i := 1) (by have := HSt.out; omega) HS1.out)
        have HEn := Lib.hid (show ((pw k.fuse k.keep (fun l => create l mnew)) s1).2 ≠ 0 → swapS k.q k.fuse k.keep t s = (pw k.fuse k.keep (fun l => create l mnew)) s1 from fun hz => seq_end (l := swapSteps k.q k.fuse k.keep t) (i := 1) (by have := HSt.out; omega) HS1.out hz)
        have HWn := Lib.hid (show ((pw k.fuse k.keep (fun l => create l mnew)) s1).1.wr ≤ s1.wr + 1 from pw_wr _ _ _ _)
        go_wp2_with fail
        refine HK.out.mono ?_
        rintro e5 w5 ⟨rfl, hB5, L5, hL5, hP5, hT5⟩
        have HB5 := Lib.hid (HB1.out.trans hB5)
        have HP5 := Lib.hid hP5
        have HL5 := Lib.hid hL5
        have HT5 := Lib.hid (HT1.out.trans hT5)
        clear hB5 hP5 hL5 hT5 HK hc
        generalize (pw k.fuse k.keep (fun l => create l mnew)) s1 = r at *
        obtain ⟨s2, z⟩ := r
        by_cases hz : z = 0
        · subst hz
          go_wp2_with fail
          go_roundw
          case rel => exact ⟨2, s2, L5, by omega, rfl, rfl, HSn.out, by have h1 : s2.wr ≤ s1.wr + 1 := HWn.out; have := HWr.out; omega, HL5.out, HP5.out, HB5.out, HT5.out⟩
          case measure => decide
        · have hzb : ((z : Int) != 0) = true := by simp; omega
          have HEn := Lib.hid (HEn.out hz)
          go_wp2_with fail
          rw [Exit.noGoto_ret]
          go_ret
          rw [HEn.out]
          exact ⟨rfl, (HBw.out.mono hsz.out).trans HB5.out, L5, HL5.out, HP5.out, HTw.out.trans HT5.out⟩
      · have hc := HT1.out.cell (HC.out.2.2.1) HLb.out.1 HLb.out.2.1 HLb.out.2.2
        have HK := Lib.hid (sfill_calls wr HP1.out HL1.out hwb hfu t (by have := HTt.out; omega))
        rw [HSv.out] at HK
        have HSn := Lib.hid (show seqS ((swapSteps k.q k.fuse k.keep t).take 3) s = (pw k.fuse k.keep (fun l => append k.q l mnew t)) s1 from seq_take (l := swapSteps k.q k.fuse k.keep t) (i := 2) (by have := HSt.out; omega) HS1.out)
        have HEn := Lib.hid (show ((pw k.fuse k.keep (fun l => append k.q l mnew t)) s1).2 ≠ 0 → swapS k.q k.fuse k.keep t s = (pw k.fuse k.keep (fun l => append k.q l mnew t)) s1 from fun hz => seq_end (l := swapSteps k.q k.fuse k.keep t) (i := 2) (by have := HSt.out; omega) HS1.out hz)
        have HWn := Lib.hid (show ((pw k.fuse k.keep (fun l => append k.q l mnew t)) s1).1.wr ≤ s1.wr + 1 from pw_wr _ _ _ _)
        go_wp2_with fail
        refine HK.out.mono ?_
        rintro e5 w5 ⟨rfl, hB5, L5, hL5, hP5, hT5⟩
        have HB5 := Lib.hid (HB1.out.trans hB5)
        have HP5 := Lib.hid hP5
        have HL5 := Lib.hid hL5
        have HT5 := Lib.hid (HT1.out.trans hT5)
        clear hB5 hP5 hL5 hT5 HK hc
        generalize (pw k.fuse k.keep (fun l => append k.q l mnew t)) s1 = r at *
        obtain ⟨s2, z⟩ := r
        by_cases hz : z = 0
        · subst hz
          go_wp2_with fail
          go_roundw
          case rel => exact ⟨3, s2, L5, by omega, rfl, rfl, HSn.out, by have h1 : s2.wr ≤ s1.wr + 1 := HWn.out; have := HWr.out; omega, HL5.out, HP5.out, HB5.out, HT5.out⟩
          case measure => decide
        · have hzb : ((z : Int) != 0) = true := by simp; omega
          have HEn := Lib.hid (HEn.out hz)
          go_wp2_with fail
          rw [Exit.noGoto_ret]
          go_ret
          rw [HEn.out]
          exact ⟨rfl, (HBw.out.mono hsz.out).trans HB5.out, L5, HL5.out, HP5.out, HTw.out.trans HT5.out⟩
      · have hc := HT1.out.cell (HC.out.2.2.2.1) HLb.out.1 HLb.out.2.1 HLb.out.2.2
        have HK := Lib.hid (ssync_calls wr HP1.out HL1.out hwb hfu t)
        rw [HSv.out] at HK
        have HSn := Lib.hid (show seqS ((swapSteps k.q k.fuse k.keep t).take 4) s = (pw k.fuse k.keep (fun l => sync l mnew)) s1 from seq_take (l := swapSteps k.q k.fuse k.keep t) (i := 3) (by have := HSt.out; omega) HS1.out)
        have HEn := Lib.hid (show ((pw k.fuse k.keep (fun l => sync l mnew)) s1).2 ≠ 0 → swapS k.q k.fuse k.keep t s = (pw k.fuse k.keep (fun l => sync l mnew)) s1 from fun hz => seq_end (l := swapSteps k.q k.fuse k.keep t) (i := 3) (by have := HSt.out; omega) HS1.out hz)
        have HWn := Lib.hid (show ((pw k.fuse k.keep (fun l => sync l mnew)) s1).1.wr ≤ s1.wr + 1 from pw_wr _ _ _ _)
        go_wp2_with fail
        refine HK.out.mono ?_
        rintro e5 w5 ⟨rfl, hB5, L5, hL5, hP5, hT5⟩
        have HB5 := Lib.hid (HB1.out.trans hB5)
        have HP5 := Lib.hid hP5
        have HL5 := Lib.hid hL5
        have HT5 := Lib.hid (HT1.out.trans hT5)
        clear hB5 hP5 hL5 hT5 HK hc
        generalize (pw k.fuse k.keep (fun l => sync l mnew)) s1 = r at *
        obtain ⟨s2, z⟩ := r
        by_cases hz : z = 0
        · subst hz
          go_wp2_with fail
          go_roundw
          case rel => exact ⟨4, s2, L5, by omega, rfl, rfl, HSn.out, by have h1 : s2.wr ≤ s1.wr + 1 := HWn.out; have := HWr.out; omega, HL5.out, HP5.out, HB5.out, HT5.out⟩
          case measure => decide
        · have hzb : ((z : Int) != 0) = true := by simp; omega
          have HEn := Lib.hid (HEn.out hz)
          go_wp2_with fail
          rw [Exit.noGoto_ret]
          go_ret
          rw [HEn.out]
          exact ⟨rfl, (HBw.out.mono hsz.out).trans HB5.out, L5, HL5.out, HP5.out, HTw.out.trans HT5.out⟩
      · have hc := HT1.out.cell (HC.out.2.2.2.2) HLb.out.1 HLb.out.2.1 HLb.out.2.2
        have HK := Lib.hid (srename_calls wr HP1.out HL1.out hwb hfu t)
        rw [HSv.out] at HK
        have HSn := Lib.hid (show seqS ((swapSteps k.q k.fuse k.keep t).take 5) s = (pw k.fuse k.keep (fun l => rename l mnew Dk.mn)) s1 from seq_take (l := swapSteps k.q k.fuse k.keep t) (i := 4) (by have := HSt.out; omega) HS1.out)
        have HEn := Lib.hid (show ((pw k.fuse k.keep (fun l => rename l mnew Dk.mn)) s1).2 ≠ 0 → swapS k.q k.fuse k.keep t s = (pw k.fuse k.keep (fun l => rename l mnew Dk.mn)) s1 from fun hz => seq_end (l := swapSteps k.q k.fuse k.keep t) (i := 4) (by have := HSt.out; omega) HS1.out hz)
        have HWn := Lib.hid (show ((pw k.fuse k.keep (fun l => rename l mnew Dk.mn)) s1).1.wr ≤ s1.wr + 1 from pw_wr _ _ _ _)
        go_wp2_with fail
        refine HK.out.mono ?_
        rintro e5 w5 ⟨rfl, hB5, L5, hL5, hP5, hT5⟩
        have HB5 := Lib.hid (HB1.out.trans hB5)
        have HP5 := Lib.hid hP5
        have HL5 := Lib.hid hL5
        have HT5 := Lib.hid (HT1.out.trans hT5)
        clear hB5 hP5 hL5 hT5 HK hc
        generalize (pw k.fuse k.keep (fun l => rename l mnew Dk.mn)) s1 = r at *
        obtain ⟨s2, z⟩ := r
        by_cases hz : z = 0
        · subst hz
          go_wp2_with fail
          go_roundw
          case rel => exact ⟨5, s2, L5, by omega, rfl, rfl, HSn.out, by have h1 : s2.wr ≤ s1.wr + 1 := HWn.out; have := HWr.out; omega, HL5.out, HP5.out, HB5.out, HT5.out⟩
          case measure => decide
        · have hzb : ((z : Int) != 0) = true := by simp; omega
          have HEn := Lib.hid (HEn.out hz)
          go_wp2_with fail
          rw [Exit.noGoto_ret]
          go_ret
          rw [HEn.out]
          exact ⟨rfl, (HBw.out.mono hsz.out).trans HB5.out, L5, HL5.out, HP5.out, HTw.out.trans HT5.out⟩
    · have hltb : decide ((i : Int) < 5) = false := decide_eq_false (by omega)
      have he : i = 5 := by omega
      subst he
      have hr := Lib.hid (show swapS k.q k.fuse k.keep t s = (s1, 0) from HS1.out)
      go_wp2_with fail
      rw [Exit.noGoto_ret]
      go_ret
      rw [hr.out]
      exact ⟨rfl, (HBw.out.mono hsz.out).trans HB1.out, L1, HL1.out, HP1.out, HTw.out.trans HT1.out⟩
end Go.Proofs.YtbffgpfkgmhmhaaGreatDoor.Dw
/- Power.Read, manifest.Load, the law's loads, same (functions 35, 36, 10, 15). -/
set_option linter.unusedVariables false
set_option linter.unusedSimpArgs false
namespace Go.Proofs.Dk
def readS (s : PS) (n : Tx) : Tx × Nat := if s.dn then ([], 8) else read s.l n
end Go.Proofs.Dk
namespace Go.Proofs.YtbffgpfkgmhmhaaGreatDoor.Dw
open Go.RowKit Go.Maps Go.Proofs.YtbffgpfkgmhmhaaGreatDoor.HM Go.Proofs.YtbffgpfkgmhmhaaGreatDoorW.PrintWords Go.Proofs.YtbffgpfkgmhmhaaGreatDoorW.PrintLast Go.Proofs.YtbffgpfkgmhmhaaGreatDoorW.PrintMore Go.Proofs.Dk
set_option maxRecDepth 100000
theorem pread_s (w : World) {k : PW} {L : Lf} {s : PS} (h : IsP w k L (pcOf s)) (hl : fs L = s.l) (n : Tx) : Calls Tryz.prog 35 #[.pointer (some ⟨k.pb, 0, none⟩), .string (bs n)] w fun e w' =>
    e = .returned (.tuple #[.string (bs (readS s n).1), .int .i64 ((readS s n).2 : Int)]) ∧ Below w.heap.size w w' := by
  cases hd : s.dn with
  | true =>
    refine (pread_off w h hd n).mono ?_
    rintro e w' ⟨rfl, rfl⟩
    have e0 : readS s n = ([], 8) := by simp [readS, hd]
    rw [e0]
    exact ⟨rfl, Below.refl _ _⟩
  | false =>
    have e0 : readS s n = read (fs L) n := by simp [readS, hd, hl]
    rw [e0]
    have HI := Lib.hid (isp_calls _ h)
    have HDn := Lib.hid (down_s _ h)
    rw [hd] at HDn
    have HR := Lib.hid (read_calls w h.disk n)
    have c0 := h.c 0 (v := .pointer (some ⟨k.d, 0, none⟩)) rfl
    clear h hd hl e0
    go_enter Tryz.func35, Tryz.ntmps35
    go_wp2_with (first | (go_at_call 67; refine HI.out.mono ?_; rintro e w' ⟨rfl, hw'⟩; obtain rfl := hw'.symm) | (go_at_call 84; refine HDn.out.mono ?_; rintro e w' ⟨rfl, hw'⟩; obtain rfl := hw'.symm))
    refine HR.out.mono ?_
    rintro e w2 ⟨rfl, hB⟩
    have HB := Lib.hid hB
    clear hB
    go_wp2_with fail
    go_ret2
    exact ⟨rfl, HB.out⟩
/-- What a file's bytes, or the lack of them, tell. -/
def loadN (r : Tx × Nat) : Int × Int × List S29 × List Int × Int := if r.2 = 0 then PT.takeN r.1 else (0, 0, [], [], (r.2 : Int))
/-- A manifest that a call hands back. -/
def MadeM (m : Int × Int × List S29 × List Int × Int) (B : Nat) (w' : World) (A2 : Option Addr) (c2 : Nat) (A3 : Option Addr) (c3 : Nat) : Prop :=
  Kd.R k29 29 w' B (fun _ => True) (.slice A2 m.2.2.1.length c2) m.2.2.1 ∧ Kd.R (Kd.int .u64) 22 w' B (fun _ => True) (.slice A3 m.2.2.2.1.length c3) m.2.2.2.1
theorem MadeM.reads {m : Int × Int × List S29 × List Int × Int} {B : Nat} {w' : World} {A2 : Option Addr} {c2 : Nat} {A3 : Option Addr} {c3 : Nat} (h : MadeM m B w' A2 c2 A3 c3) :
    Kd.C k29 w' A2 m.2.2.1.length m.2.2.1 ∧ m.2.2.1.length ≤ c2 ∧ Kd.C (Kd.int .u64) w' A3 m.2.2.2.1.length m.2.2.2.1 ∧ m.2.2.2.1.length ≤ c3 := by
  obtain ⟨h1, h2⟩ := h
  exact ⟨(Kd.R_reads' h1).2.2, (Kd.R_reads' h1).2.1, (Kd.R_reads' h2).2.2, (Kd.R_reads' h2).2.1⟩
theorem MadeM.move {m : Int × Int × List S29 × List Int × Int} {B : Nat} {w' w2 : World} {A2 : Option Addr} {c2 : Nat} {A3 : Option Addr} {c3 : Nat} (h : MadeM m B w' A2 c2 A3 c3) (hm : ∀ k, B ≤ k → k < w'.heap.size → w2.heap[k]? = w'.heap[k]?) : MadeM m B w2 A2 c2 A3 c3 := by
  obtain ⟨h1, h2⟩ := h
  exact ⟨Kd.R_mono (Kd.R_move (Kd.R_bound h1) (fun k hk => hm k hk.2.1 hk.2.2.1)) (fun _ _ => trivial), Kd.R_mono (Kd.R_move (Kd.R_bound h2) (fun k hk => hm k hk.2.1 hk.2.2.1)) (fun _ _ => trivial)⟩
theorem MadeM.below {m : Int × Int × List S29 × List Int × Int} {B : Nat} {w' w2 : World} {A2 : Option Addr} {c2 : Nat} {A3 : Option Addr} {c3 : Nat} (h : MadeM m B w' A2 c2 A3 c3) (hB : Below w'.heap.size w' w2) : MadeM m B w2 A2 c2 A3 c3 :=
  h.move fun k _ hk => hB.block k hk
theorem MadeM.lower {m : Int × Int × List S29 × List Int × Int} {B B2 : Nat} {w' : World} {A2 : Option Addr} {c2 : Nat} {A3 : Option Addr} {c3 : Nat} (h : MadeM m B w' A2 c2 A3 c3) (hB : B2 ≤ B) : MadeM m B2 w' A2 c2 A3 c3 :=
  ⟨Kd.R_lower h.1 hB, Kd.R_lower h.2 hB⟩
theorem MadeM.nil (e p z : Int) (B : Nat) (w' : World) : MadeM (e, p, [], [], z) B w' none 0 none 0 := ⟨Kd.R_nil _ _ _ _ _, Kd.R_nil _ _ _ _ _⟩
/-- A manifest that is put into a box of an elder block. -/
theorem MadeM.boxed {m : Int × Int × List S29 × List Int × Int} {B g : Nat} {w' : World} {A2 : Option Addr} {c2 : Nat} {A3 : Option Addr} {c3 : Nat} (h : MadeM m B w' A2 c2 A3 c3) (hg : g < B) (a b c d : Value) :
    MadeM m B ((((w'.setCell ⟨g, 0, none⟩ a).setCell ⟨g, 1, none⟩ b).setCell ⟨g, 2, none⟩ c).setCell ⟨g, 3, none⟩ d) A2 c2 A3 c3 :=
  h.move fun k hk _ => by
    have hne : k ≠ g := by omega
    rw [Below.heap_setCell _ _ _ _ hne, Below.heap_setCell _ _ _ _ hne, Below.heap_setCell _ _ _ _ hne, Below.heap_setCell _ _ _ _ hne]
theorem box_put4 {w : World} {g : Nat} {a0 b0 c0 d0 : Value} (h : w.heap[g]? = some (.cells #[a0, b0, c0, d0] 26)) (a b c d : Value) :
    ((((w.setCell ⟨g, 0, none⟩ a).setCell ⟨g, 1, none⟩ b).setCell ⟨g, 2, none⟩ c).setCell ⟨g, 3, none⟩ d).heap[g]? = some (.cells #[a, b, c, d] 26 (0, 0)) :=
  blk_put (cs := #[a, b, c, d0]) (blk_put (cs := #[a, b, c0, d0]) (blk_put (cs := #[a, b0, c0, d0]) (blk_put (cs := #[a0, b0, c0, d0]) h 0 a rfl) 1 b rfl) 2 c rfl) 3 d rfl
theorem below_put4 {w w' : World} (h : Below w.heap.size w w') (a b c d : Value) :
    Below w.heap.size w ((((w'.setCell ⟨w.heap.size, 0, none⟩ a).setCell ⟨w.heap.size, 1, none⟩ b).setCell ⟨w.heap.size, 2, none⟩ c).setCell ⟨w.heap.size, 3, none⟩ d) :=
  (((h.setCell (p := ⟨w.heap.size, 0, none⟩) (Nat.le_refl _) a).setCell (p := ⟨w.heap.size, 1, none⟩) (Nat.le_refl _) b).setCell (p := ⟨w.heap.size, 2, none⟩) (Nat.le_refl _) c).setCell (p := ⟨w.heap.size, 3, none⟩) (Nat.le_refl _) d
theorem take_calls (w : World) (l : Tx) (hl : l.length ≤ 100000) (hL : Crc.Laid w) : Calls Tryz.prog 12 #[.string (bs l)] w fun e w' => ∃ A2 c2 A3 c3,
    e = .returned (.tuple #[.agg #[.int .u64 (PT.takeN l).1, .int .u8 (PT.takeN l).2.1, .slice A2 (PT.takeN l).2.2.1.length c2, .slice A3 (PT.takeN l).2.2.2.1.length c3], .int .i64 (PT.takeN l).2.2.2.2]) ∧
    MadeM (PT.takeN l) w.heap.size w' A2 c2 A3 c3 ∧ Below w.heap.size w w' := by
  have h := PT.take_f l hl 101001 (by decide)
  refine (HM.manifest_Take.calls 101001 (bs l) _ _ _ _ _ w h ⟨hL⟩).mono ?_
  rintro e w' ⟨v2, v3, rfl, hR2, hR3, hB⟩
  obtain ⟨A2, c2, rfl⟩ := Kd.R_slice hR2
  obtain ⟨A3, c3, rfl⟩ := Kd.R_slice hR3
  exact ⟨A2, c2, A3, c3, rfl, ⟨hR2, hR3⟩, hB⟩
theorem readS_len {w : World} {k : PW} {L : Lf} {c : PC} (h : IsP w k L c) {s : PS} (hl : fs L = s.l) (n : Tx) : (readS s n).1.length ≤ 65536 := by
  unfold readS
  split
  · simp
  · rw [Go.Proofs.Dk.read]
    split
    · split
      · simp
      · rename_i f hf
        rw [← hl] at hf
        exact h.disk.ok.file _ (get_mem hf)
    · simp
theorem frozen4 {w : World} {g : Nat} {a b c d : Value} {t : TypeId} (h : w.heap[g]? = some (.cells #[a, b, c, d] t)) : w.frozen? ⟨g, 0, none⟩ = false ∧ w.frozen? ⟨g, 1, none⟩ = false ∧ w.frozen? ⟨g, 2, none⟩ = false ∧ w.frozen? ⟨g, 3, none⟩ = false := by
  simp [World.frozen?, h]
set_option maxHeartbeats 2000000 in
theorem load_calls (w : World) {k : PW} {L : Lf} {s : PS} (h : IsP w k L (pcOf s)) (hl : fs L = s.l) (hL : Crc.Laid w) : Calls Tryz.prog 36 #[.pointer (some ⟨k.pb, 0, none⟩)] w fun e w' => ∃ A2 c2 A3 c3,
    e = .returned (.tuple #[.agg #[.int .u64 (loadN (readS s Dk.mn)).1, .int .u8 (loadN (readS s Dk.mn)).2.1, .slice A2 (loadN (readS s Dk.mn)).2.2.1.length c2, .slice A3 (loadN (readS s Dk.mn)).2.2.2.1.length c3], .int .i64 (loadN (readS s Dk.mn)).2.2.2.2]) ∧
    MadeM (loadN (readS s Dk.mn)) w.heap.size w' A2 c2 A3 c3 ∧ Below w.heap.size w w' := by
  have hu26 := Tryz.underlying26
  have HB1 := Lib.hid ((Below.refl w.heap.size w).alloc (Nat.le_refl _) (.cells #[.int .u64 0, .int .u8 0, .slice none 0 0, .slice none 0 0] 26))
  have HR := Lib.hid (pread_s (w.alloc (.cells #[.int .u64 0, .int .u8 0, .slice none 0 0, .slice none 0 0] 26)) (h.below HB1.out) hl Dk.mn)
  have HLn := Lib.hid (readS_len h hl Dk.mn)
  have HLd := Lib.hid hL
  have HBx := Lib.hid (heap_alloc_new w (.cells #[.int .u64 0, .int .u8 0, .slice none 0 0, .slice none 0 0] 26))
  generalize readS s Dk.mn = r at *
  obtain ⟨t, z⟩ := r
  clear h hl hL
  by_cases hz : z = 0
  · subst hz
    rw [show loadN (t, 0) = PT.takeN t from rfl]
    go_enter Tryz.func36, Tryz.ntmps36
    go_wp2_with fail
    refine HR.out.mono ?_
    rintro e w2 ⟨rfl, hB⟩
    have HB := Lib.hid (HB1.out.trans (hB.mono HB1.out.size))
    have HB2 := Lib.hid ((hB.block w.heap.size (by simp)).trans HBx.out)
    have HLd2 := Lib.hid (Crc.laid_below HLd.out HB.out)
    have hsz : w.heap.size < w2.heap.size := heap_lt HB2.out
    clear hB
    go_wp2_with fail
    refine (take_calls w2 t (by have := HLn.out; omega) HLd2.out).mono ?_
    rintro e w3 ⟨A2, c2, A3, c3, rfl, hM, hB3⟩
    have HMd := Lib.hid hM
    have HB3 := Lib.hid (HB.out.trans (hB3.mono HB.out.size))
    have HBk := Lib.hid ((hB3.block w.heap.size hsz).trans HB2.out)
    obtain ⟨c0, c1, c2_, c3_⟩ := Go.Proofs.YtbffgpfkgmhmhaaGreatDoor.HM.cells4 HBk.out
    obtain ⟨z0, z1, z2, z3⟩ := frozen4 HBk.out
    clear hM hB3
    generalize hm : PT.takeN t = m at *
    have Hm := Lib.hid hm
    clear hm
    go_wp2_with fail
    refine bodyPost_ret (results_ct rfl _ _ w.heap.size 26 #[.int .u64 m.1, .int .u8 m.2.1, .slice A2 m.2.2.1.length c2, .slice A3 m.2.2.2.1.length c3] (0, 0) _ rfl (box_put4 HBk.out _ _ _ _) Tryz.underlying26 rfl (by kernel_rfl)) rfl ?_
    rw [Hm.out]
    exact ⟨A2, c2, A3, c3, rfl, (HMd.out.boxed hsz _ _ _ _).lower (Nat.le_of_lt hsz), below_put4 HB3.out _ _ _ _⟩
  · have hzb : ((z : Int) != 0) = true := by simp; omega
    have hr := Lib.hid (show loadN (t, z) = (0, 0, [], [], (z : Int)) from by unfold loadN; rw [if_neg hz])
    rw [hr.out]
    go_enter Tryz.func36, Tryz.ntmps36
    go_wp2_with fail
    refine HR.out.mono ?_
    rintro e w2 ⟨rfl, hB⟩
    have HB := Lib.hid (HB1.out.trans (hB.mono HB1.out.size))
    have HB2 := Lib.hid ((hB.block w.heap.size (by simp)).trans HBx.out)
    have HLd2 := Lib.hid (Crc.laid_below HLd.out HB.out)
    have hsz : w.heap.size < w2.heap.size := heap_lt HB2.out
    clear hB
    obtain ⟨c0, c1, c2_, c3_⟩ := Go.Proofs.YtbffgpfkgmhmhaaGreatDoor.HM.cells4 HB2.out
    obtain ⟨z0, z1, z2, z3⟩ := frozen4 HB2.out
    go_wp2_with fail
    refine bodyPost_ret (results_ct rfl _ _ w.heap.size 26 #[.int .u64 0, .int .u8 0, .slice none 0 0, .slice none 0 0] (0, 0) _ rfl (box_put4 HB2.out _ _ _ _) Tryz.underlying26 rfl (by kernel_rfl)) rfl ?_
    exact ⟨none, 0, none, 0, rfl, MadeM.nil _ _ _ _ _, below_put4 HB.out _ _ _ _⟩
set_option maxHeartbeats 2000000 in
theorem loads_calls (w : World) {base d mb q : Nat} {L : Lf} (hD : IsD w base d mb q L) (hL : Crc.Laid w) : Calls Tryz.prog 10 #[.pointer (some ⟨d, 0, none⟩)] w fun e w' => ∃ A2 c2 A3 c3,
    e = .returned (.tuple #[.agg #[.int .u64 (loadN (Dk.read (fs L) Dk.mn)).1, .int .u8 (loadN (Dk.read (fs L) Dk.mn)).2.1, .slice A2 (loadN (Dk.read (fs L) Dk.mn)).2.2.1.length c2, .slice A3 (loadN (Dk.read (fs L) Dk.mn)).2.2.2.1.length c3], .int .i64 (loadN (Dk.read (fs L) Dk.mn)).2.2.2.2]) ∧
    MadeM (loadN (Dk.read (fs L) Dk.mn)) w.heap.size w' A2 c2 A3 c3 ∧ Below w.heap.size w w' := by
  have hu26 := Tryz.underlying26
  have HB1 := Lib.hid ((Below.refl w.heap.size w).alloc (Nat.le_refl _) (.cells #[.int .u64 0, .int .u8 0, .slice none 0 0, .slice none 0 0] 26))
  have HN := Lib.hid (pnew_calls (w.alloc (.cells #[.int .u64 0, .int .u8 0, .slice none 0 0, .slice none 0 0] 26)) (hD.below HB1.out) (-1) none 0 [] (by decide) (fun _ => rfl) (fun j hj => by simp at hj))
  have HBx := Lib.hid (heap_alloc_new w (.cells #[.int .u64 0, .int .u8 0, .slice none 0 0, .slice none 0 0] 26))
  have HLd := Lib.hid hL
  clear hD hL
  go_enter Tryz.func10, Tryz.ntmps10
  go_wp2_with fail
  refine HN.out.mono ?_
  rintro e w2 ⟨pb, A', cap', rfl, hP, hB, hpb⟩
  have HP := Lib.hid hP
  have HB := Lib.hid (HB1.out.trans (hB.mono HB1.out.size))
  have HB2 := Lib.hid ((hB.block w.heap.size (by simp)).trans HBx.out)
  have hsz : w.heap.size < w2.heap.size := heap_lt HB2.out
  clear hB hP
  go_wp2_with fail
  refine (load_calls w2 (s := ⟨fs L, 0, false⟩) HP.out rfl (Crc.laid_below HLd.out HB.out)).mono ?_
  rw [show readS ⟨fs L, 0, false⟩ Dk.mn = Dk.read (fs L) Dk.mn from rfl]
  generalize hm : loadN (Dk.read (fs L) Dk.mn) = m at *
  have Hm := Lib.hid hm
  clear hm
  rintro e w3 ⟨A2, c2, A3, c3, rfl, hM, hB3⟩
  have HMd := Lib.hid hM
  have HB3 := Lib.hid (HB.out.trans (hB3.mono HB.out.size))
  have HBk := Lib.hid ((hB3.block w.heap.size hsz).trans HB2.out)
  obtain ⟨c0, c1, c2_, c3_⟩ := Go.Proofs.YtbffgpfkgmhmhaaGreatDoor.HM.cells4 HBk.out
  obtain ⟨z0, z1, z2, z3⟩ := frozen4 HBk.out
  clear hM hB3
  go_wp2_with fail
  refine bodyPost_ret (results_ct rfl _ _ w.heap.size 26 #[.int .u64 m.1, .int .u8 m.2.1, .slice A2 m.2.2.1.length c2, .slice A3 m.2.2.2.1.length c3] (0, 0) _ rfl (box_put4 HBk.out _ _ _ _) Tryz.underlying26 rfl (by kernel_rfl)) rfl ?_
  rw [Hm.out]
  exact ⟨A2, c2, A3, c3, rfl, (HMd.out.boxed hsz _ _ _ _).lower (Nat.le_of_lt hsz), below_put4 HB3.out _ _ _ _⟩
/-! ### same: it answers -/
theorem same_l1 (e p e' p' : Int) (l2 l2' : List S29) (l3 l3' : List Int) (h3 : l3.length = l3'.length) (h : l3.length ≤ 100) (d : Nat) : ∀ (k i : Nat), i + d = l3.length → d < k → ∃ b, hindcastlaw17_same.l1 k (i : Int) e p l2 l3 e' p' l2' l3' = some b := by
  induction d with
  | zero =>
    intro k i hd hk
    obtain ⟨k, rfl⟩ : ∃ m, k = m + 1 := ⟨k - 1, by omega⟩
    simp only [hindcastlaw17_same.l1]
    exact ⟨_, if_neg (by omega)⟩
  | succ d ih =>
    intro k i hd hk
    obtain ⟨k, rfl⟩ : ∃ m, k = m + 1 := ⟨k - 1, by omega⟩
    have hw : wrap64 ((i : Int) + 1) = ((i + 1 : Nat) : Int) := by unfold wrap64; omega
    simp only [hindcastlaw17_same.l1]
    rw [if_pos (by omega), if_pos (by omega), if_pos (by omega), hw]
    split
    · exact ih k (i + 1) (by omega) (by omega)
    · exact ⟨_, rfl⟩
theorem same_l0 (e p e' p' : Int) (l2 l2' : List S29) (l3 l3' : List Int) (h2 : l2.length = l2'.length) (h2' : l2.length ≤ 100) (h3 : l3.length = l3'.length) (h : l3.length ≤ 100) (d : Nat) : ∀ (k i : Nat), i + d = l2.length → d + 200 < k → ∃ b, hindcastlaw17_same.l0 k (i : Int) e p l2 l3 e' p' l2' l3' = some b := by
  induction d with
  | zero =>
    intro k i hd hk
    obtain ⟨k, rfl⟩ : ∃ m, k = m + 1 := ⟨k - 1, by omega⟩
    simp only [hindcastlaw17_same.l0]
    rw [if_neg (by omega)]
    exact same_l1 e p e' p' l2 l2' l3 l3' h3 h l3.length k 0 (by omega) (by omega)
  | succ d ih =>
    intro k i hd hk
    obtain ⟨k, rfl⟩ : ∃ m, k = m + 1 := ⟨k - 1, by omega⟩
    have hw : wrap64 ((i : Int) + 1) = ((i + 1 : Nat) : Int) := by unfold wrap64; omega
    simp only [hindcastlaw17_same.l0]
    rw [if_pos (by omega), if_pos (by omega), if_pos (by omega), hw]
    split
    · exact ⟨_, rfl⟩
    · exact ih k (i + 1) (by omega) (by omega)
theorem same_some (e p e' p' : Int) (l2 l2' : List S29) (l3 l3' : List Int) (h2 : l2.length ≤ 100) (h3 : l3.length ≤ 100) : ∃ b, hindcastlaw17_same.f 1001 e p l2 l3 e' p' l2' l3' = some b := by
  have jt : ∀ a b c d e f g h, hindcastlaw17_same.j0 (1000 + 1) true a b c d e f g h = some false := by
    intro a b c d e f g h
    simp only [hindcastlaw17_same.j0, if_true]
  unfold hindcastlaw17_same.f
  split
  · split
    · split
      · rename_i hl
        by_cases hz : l3.length = l3'.length
        · have hq : ((l3.length : Int) != (l3'.length : Int)) = false := by simp [hz]
          rw [hq]
          show ∃ b, hindcastlaw17_same.j0 (1000 + 1) false e p l2 l3 e' p' l2' l3' = some b
          simp only [hindcastlaw17_same.j0]
          rw [if_neg (by decide)]
          exact same_l0 e p e' p' l2 l2' l3 l3' (by omega) h2 hz h3 l2.length 1000 0 (by omega) (by omega)
        · have hq : ((l3.length : Int) != (l3'.length : Int)) = true := by simp; omega
          rw [hq]
          exact ⟨_, jt _ _ _ _ _ _ _ _⟩
      · exact ⟨_, jt _ _ _ _ _ _ _ _⟩
    · exact ⟨_, jt _ _ _ _ _ _ _ _⟩
  · exact ⟨_, jt _ _ _ _ _ _ _ _⟩
end Go.Proofs.YtbffgpfkgmhmhaaGreatDoor.Dw
/- ManifestWhole walked (functions 4, 17, 18). Printed by whgen.py. -/
set_option linter.unusedVariables false
set_option linter.unusedSimpArgs false
namespace Go.Proofs.YtbffgpfkgmhmhaaGreatDoor.Dw
open Go.RowKit Go.Maps Go.Proofs.YtbffgpfkgmhmhaaGreatDoor.HM Go.Proofs.YtbffgpfkgmhmhaaGreatDoorW.PrintWords Go.Proofs.YtbffgpfkgmhmhaaGreatDoorW.PrintLast Go.Proofs.YtbffgpfkgmhmhaaGreatDoorW.PrintMore Go.Proofs.Dk
set_option maxRecDepth 100000
theorem awake_is : hindcastlaw17_awake.f 101002 = some true := by decide +kernel
theorem mawake_calls (w : World) (hL : Crc.Laid w) : Calls Tryz.prog 17 #[] w fun e w' => e = .returned (.bool true) ∧ Below w.heap.size w w' :=
  HM.hindcastlaw17_awake.calls 101002 true w awake_is ⟨hL⟩
/-- A swap, over a power of this fuse. -/
structure SV where
  e : Int
  p : Int
  A2 : Option Addr
  c2 : Nat
  l2 : List S29
  A3 : Option Addr
  c3 : Nat
  l3 : List Int
  fuse : Int
  Ak : Option Addr
  ck : Nat
  keep : List Int
structure okSV (w : World) (x : SV) : Prop where
  e : 0 ≤ x.e ∧ x.e < 18446744073709551616
  p : 0 ≤ x.p ∧ x.p < 256
  nums : PM.okNums x.l2 x.l3
  r2 : Kd.C k29 w x.A2 x.l2.length x.l2
  h2 : x.l2.length ≤ x.c2
  r3 : Kd.C (Kd.int .u64) w x.A3 x.l3.length x.l3
  h3 : x.l3.length ≤ x.c3
  fuse : -9223372036854775808 ≤ x.fuse ∧ x.fuse ≤ 9223372036854775807
  nil : x.Ak = none → x.keep = []
  kept : Nums w x.Ak x.keep
def few (x : SV) : Bool := decide (x.l2.length ≤ 50) && decide (x.l3.length ≤ 50)
theorem take_mtext {e p : Int} {l2 : List S29} {l3 : List Int} (he : 0 ≤ e ∧ e < 18446744073709551616) (hp : 0 ≤ p ∧ p < 256) (ho : PM.okNums l2 l3) (ok : PM.okB e p l2 l3 = true) : PT.takeN (mtext e p l2 l3) = (e, p, l2, l3, 0) := by
  rw [← PT.take_put e p l2 l3 he hp ho ok]
  congr 1
abbrev M5 := Int × Int × List S29 × List Int × Int
/-- A box that holds a manifest. -/
def Box26 (w : World) (g : Nat) (m : M5) (A2 : Option Addr) (c2 : Nat) (A3 : Option Addr) (c3 : Nat) : Prop := w.heap[g]? = some (.cells #[.int .u64 m.1, .int .u8 m.2.1, .slice A2 m.2.2.1.length c2, .slice A3 m.2.2.2.1.length c3] 26)
theorem msame_calls (w : World) (m n : M5) (A2 : Option Addr) (c2 : Nat) (A3 : Option Addr) (c3 : Nat) (A2' : Option Addr) (c2' : Nat) (A3' : Option Addr) (c3' : Nat)
    (h : Kd.C k29 w A2 m.2.2.1.length m.2.2.1 ∧ m.2.2.1.length ≤ c2 ∧ Kd.C (Kd.int .u64) w A3 m.2.2.2.1.length m.2.2.2.1 ∧ m.2.2.2.1.length ≤ c3)
    (h' : Kd.C k29 w A2' n.2.2.1.length n.2.2.1 ∧ n.2.2.1.length ≤ c2' ∧ Kd.C (Kd.int .u64) w A3' n.2.2.2.1.length n.2.2.2.1 ∧ n.2.2.2.1.length ≤ c3') (hl : m.2.2.1.length ≤ 12 ∧ m.2.2.2.1.length ≤ 2) :
    Calls Tryz.prog 15 #[.agg #[.int .u64 m.1, .int .u8 m.2.1, .slice A2 m.2.2.1.length c2, .slice A3 m.2.2.2.1.length c3], .agg #[.int .u64 n.1, .int .u8 n.2.1, .slice A2' n.2.2.1.length c2', .slice A3' n.2.2.2.1.length c3']] w fun e w' => ∃ b, e = .returned (.bool b) ∧ ((m.1, m.2.1, m.2.2.1, m.2.2.2.1) = (n.1, n.2.1, n.2.2.1, n.2.2.2.1) → b = true) ∧ Below w.heap.size w w' := by
  obtain ⟨b, hb⟩ := same_some m.1 m.2.1 n.1 n.2.1 m.2.2.1 n.2.2.1 m.2.2.2.1 n.2.2.2.1 (by omega) (by omega)
  refine (HM.hindcastlaw17_same.calls 1001 m.1 m.2.1 A2 c2 m.2.2.1 A3 c3 m.2.2.2.1 n.1 n.2.1 A2' c2' n.2.2.1 A3' c3' n.2.2.2.1 b w h.1 h.2.1 h.2.2.1 h.2.2.2 h'.1 h'.2.1 h'.2.2.1 h'.2.2.2 hb).mono ?_
  rintro e w' ⟨rfl, hB⟩
  refine ⟨b, rfl, fun he => ?_, hB⟩
  simp only [Prod.mk.injEq] at he
  obtain ⟨e1, e2, e3, e4⟩ := he
  rw [← e1, ← e2, ← e3, ← e4, PT.same_f _ _ _ _ (by omega) (by omega) 1001 (by decide)] at hb
  exact (Option.some.inj hb).symm
/-- Cells of a step, where it lies. -/
def SC (w : World) (a : Addr) (x : SV) : Prop := w.cell? a = some (.int .u64 x.e) ∧ w.cell? ⟨a.block, a.off + 1, none⟩ = some (.int .u8 x.p) ∧ w.cell? ⟨a.block, a.off + 2, none⟩ = some (.slice x.A2 x.l2.length x.c2) ∧
  w.cell? ⟨a.block, a.off + 3, none⟩ = some (.slice x.A3 x.l3.length x.c3) ∧ w.cell? ⟨a.block, a.off + 4, none⟩ = some (.int .i64 x.fuse) ∧ w.cell? ⟨a.block, a.off + 5, none⟩ = some (.slice x.Ak x.keep.length x.ck)
theorem SC.below {w w' : World} {a : Addr} {x : SV} (h : SC w a x) (hB : Below w.heap.size w w') : SC w' a x :=
  ⟨cell_below h.1 hB, cell_below h.2.1 hB, cell_below h.2.2.1 hB, cell_below h.2.2.2.1 hB, cell_below h.2.2.2.2.1 hB, cell_below h.2.2.2.2.2 hB⟩
def B4 (w : World) (g : Nat) (m : M5) (A2 : Option Addr) (c2 : Nat) (A3 : Option Addr) (c3 : Nat) : Prop := w.cell? ⟨g, 0, none⟩ = some (.int .u64 m.1) ∧ w.cell? ⟨g, 1, none⟩ = some (.int .u8 m.2.1) ∧ w.cell? ⟨g, 2, none⟩ = some (.slice A2 m.2.2.1.length c2) ∧ w.cell? ⟨g, 3, none⟩ = some (.slice A3 m.2.2.2.1.length c3)
theorem Box26.b4 {w : World} {g : Nat} {m : M5} {A2 : Option Addr} {c2 : Nat} {A3 : Option Addr} {c3 : Nat} (h : Box26 w g m A2 c2 A3 c3) : B4 w g m A2 c2 A3 c3 := Go.Proofs.YtbffgpfkgmhmhaaGreatDoor.HM.cells4 h
theorem Box26.below {w w' : World} {g : Nat} {m : M5} {A2 : Option Addr} {c2 : Nat} {A3 : Option Addr} {c3 : Nat} (h : Box26 w g m A2 c2 A3 c3) (hB : Below w.heap.size w w') : Box26 w' g m A2 c2 A3 c3 := (hB.block g (heap_lt h)).trans h
/-- What a round knows behind the second look: what it told, the swap's answer. -/
structure Told2 (z : Nat) (m n : M5) (x : SV) : Prop where
  how : (m = n ∧ (z = 4 ∨ z = 8)) ∨ (m = (x.e, x.p, x.l2, x.l3, 0) ∧ (z = 0 ∨ z = 8))
end Go.Proofs.YtbffgpfkgmhmhaaGreatDoor.Dw
/- manifest.Swap over no power: nil. Printed by sngen.py. -/
set_option linter.unusedVariables false
set_option linter.unusedSimpArgs false
namespace Go.Proofs.YtbffgpfkgmhmhaaGreatDoor.Dw
open Go.RowKit Go.Maps Go.Proofs.YtbffgpfkgmhmhaaGreatDoor.HM Go.Proofs.YtbffgpfkgmhmhaaGreatDoorW.PrintWords Go.Proofs.YtbffgpfkgmhmhaaGreatDoorW.PrintLast Go.Proofs.YtbffgpfkgmhmhaaGreatDoorW.PrintMore Go.Proofs.Dk
set_option maxRecDepth 100000
theorem nop_none (w : World) : NoP w none := fun a h => by cases h
set_option maxHeartbeats 2000000 in
theorem sclear_no (w : World) (t : Tx) : Calls Tryz.prog 47 #[svOf none t] w fun e w' => e = .returned (.int .i64 0) ∧ Below w.heap.size w w' := by
  have HB1 := Lib.hid ((Below.refl w.heap.size w).alloc (Nat.le_refl _) (svObj none t))
  obtain ⟨c0, c1, c2⟩ : (w.alloc (svObj none t)).drew.cell? ⟨w.heap.size, 0, none⟩ = some (.pointer none) ∧ (w.alloc (svObj none t)).drew.cell? ⟨w.heap.size, 1, none⟩ = some (.string (bs mnew)) ∧ (w.alloc (svObj none t)).drew.cell? ⟨w.heap.size, 2, none⟩ = some (.string (bs t)) := svc w none t
  unfold svOf
  unfold svObj at *
  go_enter Tryz.func47, Tryz.ntmps47
  go_wp2_with fail
  refine start_ (n := 7) (S := (fun w' => w'.cell? ⟨w.heap.size, 0, none⟩ = some (.pointer none) ∧ w'.cell? ⟨w.heap.size, 1, none⟩ = some (.string (bs mnew)))) (ds := []) #[false, false, false, false, false, false, false] (by kernel_rfl) rfl rfl ⟨c0, c1⟩ (fun hHeld => ?_)
  have HBd := Lib.hid (show Below w.heap.size w (w.alloc (.cells #[.pointer none, .string (bs mnew), .string (bs t)] 98)).drew from HB1.out.drew)
  generalize (w.alloc (.cells #[.pointer none, .string (bs mnew), .string (bs t)] 98)).drew = W1 at *
  have HC := Lib.hid (And.intro c0 (And.intro c1 c2))
  refine pure_ (i := 0) (N := some 3) (v := ?_) (a' := ?_) #[true, false, false, false, false, false, false] rfl rfl (by kernel_rfl) (fun _ _ _ h => h) (Or.inl ⟨by rfl, ?_⟩) ?_ ?_
  rotate_left
  · intro w'
    go_simp
    with_reducible rfl
  rotate_left
  · simp only [Act.put, List.setIfInBounds_toArray, List.set_cons_zero, List.set_cons_succ, i64_w, i32_w]
    rfl
  refine take_ (i := 1) (N := some 4) (v := ?_) (a' := ?_) #[true, true, false, false, false, false, false] rfl rfl (by kernel_rfl) (fun _ _ _ h => h) (Or.inl ⟨by rfl, ?_⟩) hHeld ?_ ?_
  rotate_left
  · rintro w' ⟨g0, g1⟩
    go_simp
    with_reducible rfl
  rotate_left
  · simp only [Act.put, List.setIfInBounds_toArray, List.set_cons_zero, List.set_cons_succ, i64_w, i32_w]
    rfl
  refine pure_ (i := 3) (N := some 6) (v := ?_) (a' := ?_) #[true, true, false, true, false, false, false] rfl rfl (by kernel_rfl) (fun _ _ _ h => h) (Or.inl ⟨by rfl, ?_⟩) ?_ ?_
  rotate_left
  · intro w'
    go_simp
    with_reducible rfl
  rotate_left
  · simp only [Act.put, List.setIfInBounds_toArray, List.set_cons_zero, List.set_cons_succ, i64_w, i32_w]
    rfl
  refine take_ (i := 4) (N := some 7) (v := ?_) (a' := ?_) #[true, true, false, true, true, false, false] rfl rfl (by kernel_rfl) (fun _ _ _ h => h) (Or.inl ⟨by rfl, ?_⟩) hHeld ?_ ?_
  rotate_left
  · rintro w' ⟨g0, g1⟩
    go_simp
    with_reducible rfl
  rotate_left
  · simp only [Act.put, List.setIfInBounds_toArray, List.set_cons_zero, List.set_cons_succ, i64_w, i32_w]
    rfl
  refine one_ (i := 2) (N := some 5) #[true, true, true, true, true, false, false] rfl rfl (by kernel_rfl) (by decide) (fun K hK => ?_)
  refine goes_ Tryz.func92 (by kernel_rfl) rfl #[.pointer none] (by rfl) rfl rfl (by simp only [List.map_toArray, List.map_cons, List.map_nil]; rfl) ?_
  refine (plist_no _ (nop_none _)).mono ?_
  rintro e w5 ⟨rfl, hw5⟩
  obtain rfl := hw5.symm
  refine ⟨_, rfl, ?_⟩
  refine hK.out _ _ ⟨HC.out.1, HC.out.2.1⟩ (fun hHeld => ?_)
  clear hK K
  refine norm_ (a' := ?_) ?_ ?_
  rotate_left
  · show Act.put _ (some 5) _ = _
    simp only [Act.put, List.setIfInBounds_toArray, List.set_cons_zero, List.set_cons_succ, i64_w, i32_w]
    rfl
  refine one_ (i := 5) (N := some 8) #[true, true, true, true, true, true, false] rfl rfl (by kernel_rfl) (by decide) (fun K hK => ?_)
  refine goes_ Tryz.func91 (by kernel_rfl) rfl #[.slice none 0 0, .string (bs mnew)] (by rfl) rfl rfl (by simp only [List.map_toArray, List.map_cons, List.map_nil]; rfl) ?_
  refine (contains_calls W1 none 0 [] (by decide) (fun j hj => by simp at hj) mnew).mono ?_
  rintro e w6 ⟨rfl, hB6⟩
  have HB6 := Lib.hid hB6
  clear hB6
  refine ⟨_, rfl, ?_⟩
  refine hK.out _ _ ⟨cell_below HC.out.1 HB6.out, cell_below HC.out.2.1 HB6.out⟩ (fun hHeld => ?_)
  clear hK K
  refine norm_ (a' := ?_) ?_ ?_
  rotate_left
  · show Act.put _ (some 8) _ = _
    simp only [Act.put, List.setIfInBounds_toArray, List.set_cons_zero, List.set_cons_succ, i64_w, i32_w]
    rfl
  refine pure_ (i := 6) (N := some 9) (v := ?_) (a' := ?_) #[true, true, true, true, true, true, true] rfl rfl (by kernel_rfl) (fun _ _ _ h => h) (Or.inl ⟨by rfl, ?_⟩) ?_ ?_
  rotate_left
  · intro w'
    go_simp
    with_reducible rfl
  rotate_left
  · simp only [Act.put, List.setIfInBounds_toArray, List.set_cons_zero, List.set_cons_succ, i64_w, i32_w]
    rfl
  refine done_ (by kernel_rfl) ?_
  have HBz := Lib.hid (HBd.out.trans (HB6.out.mono HBd.out.size))
  have hm : decide (mnew ∈ ([] : List Tx)) = false := by simp
  clear hHeld c0 c1 c2
  go_wp2_with fail
  go_ret
  exact ⟨rfl, HBz.out⟩
set_option maxHeartbeats 1000000 in
theorem screate_no (w : World) (t : Tx) : Calls Tryz.prog 48 #[svOf none t] w fun e w' => e = .returned (.int .i64 1) ∧ Below w.heap.size w w' := by
  have HB1 := Lib.hid ((Below.refl w.heap.size w).alloc (Nat.le_refl _) (svObj none t))
  obtain ⟨c0, c1, c2⟩ := svc w none t
  have HC := Lib.hid (pcreate_no (w.alloc (svObj none t)) (nop_none _) mnew)
  unfold svOf
  unfold svObj at *
  go_enter Tryz.func48, Tryz.ntmps48
  go_wp2_with fail
  refine HC.out.mono ?_
  rintro e w5 ⟨rfl, hB5⟩
  have HB5 := Lib.hid (HB1.out.trans (hB5.mono HB1.out.size))
  clear hB5
  go_wp2_with fail
  go_ret
  exact ⟨rfl, HB5.out⟩
set_option maxHeartbeats 8000000 in
theorem swap_no (w : World) (e p : Int) (A2 : Option Addr) (c2 : Nat) (l2 : List S29) (A3 : Option Addr) (c3 : Nat) (l3 : List Int) (he : 0 ≤ e ∧ e < 18446744073709551616) (hp : 0 ≤ p ∧ p < 256) (ho : PM.okNums l2 l3)
    (hr2 : Kd.C k29 w A2 l2.length l2) (hc2 : l2.length ≤ c2) (hr3 : Kd.C (Kd.int .u64) w A3 l3.length l3) (hc3 : l3.length ≤ c3) (hL : Crc.Laid w) (ok : PM.okB e p l2 l3 = true) :
    Calls Tryz.prog 13 #[.pointer none, .agg #[.int .u64 e, .int .u8 p, .slice A2 l2.length c2, .slice A3 l3.length c3]] w fun e w' => e = .returned (.int .i64 1) ∧ Below w.heap.size w w' := by
  have ok' := ok
  unfold PM.okB at ok'
  simp only [Bool.and_eq_true, decide_eq_true_eq] at ok'
  obtain ⟨_, _, _, q2, q3, _⟩ := ok'
  have HPu := PM.put_f e p l2 l3 he hp ho (by omega) (by omega) 100001 (by decide)
  rw [if_pos ok, mtext_bs] at HPu
  have hu26 := Tryz.underlying26
  have hu98 := Tryz.underlying98
  have HB1 := Lib.hid ((Below.refl w.heap.size w).alloc (Nat.le_refl _) (.cells #[.int .u64 e, .int .u8 p, .slice A2 l2.length c2, .slice A3 l3.length c3] 26))
  have HPut := Lib.hid (HM.manifest_Put.calls 100001 e p A2 c2 l2 A3 c3 l3 _ _ (w.alloc (.cells #[.int .u64 e, .int .u8 p, .slice A2 l2.length c2, .slice A3 l3.length c3] 26)) (Kd.C_alloc hr2 _) hc2 (Kd.C_alloc hr3 _) hc3 HPu ⟨Crc.laid_alloc hL _⟩)
  generalize mtext e p l2 l3 = t at *
  clear HPu hr2 hr3 hL ok ho q2 q3
  go_enter Tryz.func13, Tryz.ntmps13
  go_wp2_with fail
  go_step3
  go_wp2_with fail
  refine HPut.out.mono ?_
  rintro e_ w2 ⟨rfl, hB2⟩
  have HB2 := Lib.hid (HB1.out.trans (hB2.mono HB1.out.size))
  clear hB2
  go_wp2_with fail
  refine (newname_calls w2 Dk.mn (by decide)).mono ?_
  rintro e w3 ⟨rfl, hw3⟩
  obtain rfl := hw3.symm
  rw [show Dk.mn ++ [46, 110, 101, 119] = mnew from rfl]
  go_wp2_with fail
  go_step3
  go_wp2_with fail
  obtain ⟨sv, hsv⟩ : ∃ sv, svOf none t = sv := ⟨_, rfl⟩
  have hsv2 : Value.agg #[.pointer none, .string (bs mnew), .string (bs t)] = sv := hsv
  simp only [hsv2]
  have HB3 := Lib.hid (((Below.refl w2.heap.size w2).alloc (Nat.le_refl _) (.cells #[.pointer none, .string (bs mnew), .string (bs t)] 98)).alloc (by simp) (.cells #[.func (.func 47) #[sv] #[], .func (.func 48) #[sv] #[], .func (.func 49) #[sv] #[], .func (.func 50) #[sv] #[], .func (.func 51) #[sv] #[]] 95))
  have HC := Lib.hid (cells5 (heap_alloc_new (w2.alloc (.cells #[.pointer none, .string (bs mnew), .string (bs t)] 98)) (.cells #[.func (.func 47) #[sv] #[], .func (.func 48) #[sv] #[], .func (.func 49) #[sv] #[], .func (.func 50) #[sv] #[], .func (.func 51) #[sv] #[]] 95)))
  rw [World.size_alloc] at HC
  have HSv := Lib.hid hsv
  clear hsv hsv2
  have HBw := Lib.hid (HB2.out.trans (HB3.out.mono HB2.out.size))
  generalize ((w2.alloc (.cells #[.pointer none, .string (bs mnew), .string (bs t)] 98)).alloc (.cells #[.func (.func 47) #[sv] #[], .func (.func 48) #[sv] #[], .func (.func 49) #[sv] #[], .func (.func 50) #[sv] #[], .func (.func 51) #[sv] #[]] 95)) = W1 at *
  generalize hb5 : w2.heap.size + 1 = b5 at *
  clear hb5 HPut HB1 HB2 HB3
  go_loopw [4, 33] (fun t4 t33 wr => ∃ (i : Nat), i ≤ 1 ∧ t33 = .int .i64 i ∧ t4 = .int .i64 0 ∧ Below W1.heap.size W1 wr) (fun t4 t33 _ => 5 - (intOf t33).toNat)
  case atStart => exact ⟨0, Nat.zero_le _, rfl, rfl, Below.refl _ _⟩
  case round =>
    obtain ⟨i, hi, rfl, rfl, hB1⟩ := hrel
    have HB1 := Lib.hid hB1
    clear hB1
    rcases (show i = 0 ∨ i = 1 by omega) with rfl | rfl
    · have hc := cell_below HC.out.1 HB1.out
      have HK := Lib.hid (sclear_no wr t)
      rw [HSv.out] at HK
      go_wp2_with fail
      refine HK.out.mono ?_
      rintro e5 w5 ⟨rfl, hB5⟩
      have HB5 := Lib.hid (HB1.out.trans (hB5.mono HB1.out.size))
      clear hB5 HK hc
      go_wp2_with fail
      go_roundw
      case rel => exact ⟨1, by omega, rfl, rfl, HB5.out⟩
      case measure => decide
    · have hc := cell_below HC.out.2.1 HB1.out
      have HK := Lib.hid (screate_no wr t)
      rw [HSv.out] at HK
      go_wp2_with fail
      refine HK.out.mono ?_
      rintro e5 w5 ⟨rfl, hB5⟩
      have HB5 := Lib.hid (HB1.out.trans (hB5.mono HB1.out.size))
      clear hB5 HK hc
      go_wp2_with fail
      rw [Exit.noGoto_ret]
      go_ret
      exact ⟨rfl, HBw.out.trans (HB5.out.mono HBw.out.size)⟩
end Go.Proofs.YtbffgpfkgmhmhaaGreatDoor.Dw
/- ManifestKnown walked (function 3). Printed by kngen.py. -/
set_option linter.unusedVariables false
set_option linter.unusedSimpArgs false
namespace Go.Proofs.YtbffgpfkgmhmhaaGreatDoor.Dw
open Go.RowKit Go.Maps Go.Proofs.YtbffgpfkgmhmhaaGreatDoor.HM Go.Proofs.YtbffgpfkgmhmhaaGreatDoorW.PrintWords Go.Proofs.YtbffgpfkgmhmhaaGreatDoorW.PrintLast Go.Proofs.YtbffgpfkgmhmhaaGreatDoorW.PrintMore Go.Proofs.Dk
set_option maxRecDepth 100000
theorem one_calls (w : World) : Calls Tryz.prog 7 #[] w fun e w' => ∃ A2 c2 A3 c3, e = .returned (.agg #[.int .u64 1, .int .u8 0, .slice A2 1 c2, .slice A3 0 c3]) ∧ MadeM (1, 0, [⟨1, 0⟩], [], 0) w.heap.size w' A2 c2 A3 c3 ∧ Below w.heap.size w w' := by
  refine (HM.hindcastlaw17_one.calls 1 0 [⟨1, 0⟩] [] w rfl).mono ?_
  rintro e w' ⟨v2, v3, rfl, hR2, hR3, hB⟩
  obtain ⟨A2, c2, rfl⟩ := Kd.R_slice hR2
  obtain ⟨A3, c3, rfl⟩ := Kd.R_slice hR3
  exact ⟨A2, c2, A3, c3, rfl, ⟨hR2, hR3⟩, hB⟩
theorem mcheck_calls (w : World) (e p : Int) (A2 : Option Addr) (c2 : Nat) (l2 : List S29) (A3 : Option Addr) (c3 : Nat) (l3 : List Int)
    (hr2 : Kd.C k29 w A2 l2.length l2) (hc2 : l2.length ≤ c2) (hr3 : Kd.C (Kd.int .u64) w A3 l3.length l3) (hc3 : l3.length ≤ c3) :
    Calls Tryz.prog 8 #[.agg #[.int .u64 e, .int .u8 p, .slice A2 l2.length c2, .slice A3 l3.length c3]] w fun e' w' => e' = .returned (.int .i64 (if PM.okB e p l2 l3 = true then 0 else 4)) ∧ Below w.heap.size w w' :=
  HM.manifest_Check.calls 101 e p A2 c2 l2 A3 c3 l3 _ w hr2 hc2 hr3 hc3 (PM.check_f e p l2 l3 101 (by decide))
/-- Two parts that lie in a block. -/
theorem parts_at {w : World} {g : Nat} {a b c d : Int} {t : TypeId} (h : w.heap[g]? = some (.cells #[.int .u64 a, .int .u64 b, .int .u64 c, .int .u64 d] t)) : Kd.C k29 w (some ⟨g, 0, none⟩) 2 [⟨a, b⟩, ⟨c, d⟩] := by
  refine ⟨rfl, by decide, fun _ => ⟨_, rfl, fun j p hj => ?_⟩⟩
  have hj2 : j < 2 := by have := (List.getElem?_eq_some_iff.1 hj).1; simpa using this
  rcases (show j = 0 ∨ j = 1 by omega) with rfl | rfl
  · simp at hj
    subst hj
    refine ⟨_, rfl, k29_mk w _, fun i u hi => ?_⟩
    have hi2 : i < 2 := by have := (List.getElem?_eq_some_iff.1 hi).1; simpa using this
    rcases (show i = 0 ∨ i = 1 by omega) with rfl | rfl
    · simp at hi; subst hi; simp [World.cell?, Addr.add, h]
    · simp at hi; subst hi; simp [World.cell?, Addr.add, h]
  · simp at hj
    subst hj
    refine ⟨_, rfl, k29_mk w _, fun i u hi => ?_⟩
    have hi2 : i < 2 := by have := (List.getElem?_eq_some_iff.1 hi).1; simpa using this
    have hsz : k29.sz = 2 := rfl
    rcases (show i = 0 ∨ i = 1 by omega) with rfl | rfl
    · simp at hi; subst hi; simp [World.cell?, Addr.add, h, hsz]
    · simp at hi; subst hi; simp [World.cell?, Addr.add, h, hsz]
theorem words_at {w : World} {g : Nat} {a b : Int} {t : TypeId} (h : w.heap[g]? = some (.cells #[.int .u64 a, .int .u64 b] t)) : Kd.C (Kd.int .u64) w (some ⟨g, 0, none⟩) 2 [a, b] := by
  refine ⟨rfl, by decide, fun _ => ⟨_, rfl, fun j p hj => ?_⟩⟩
  have hj2 : j < 2 := by have := (List.getElem?_eq_some_iff.1 hj).1; simpa using this
  have hsz : (Kd.int .u64).sz = 1 := rfl
  rcases (show j = 0 ∨ j = 1 by omega) with rfl | rfl
  · simp at hj
    subst hj
    refine ⟨[.int .u64 a], rfl, rfl, fun i u hi => ?_⟩
    have hi2 : i < 1 := by have := (List.getElem?_eq_some_iff.1 hi).1; simpa using this
    obtain rfl : i = 0 := by omega
    simp at hi; subst hi; simp [World.cell?, Addr.add, h]
  · simp at hj
    subst hj
    refine ⟨[.int .u64 b], rfl, rfl, fun i u hi => ?_⟩
    have hi2 : i < 1 := by have := (List.getElem?_eq_some_iff.1 hi).1; simpa using this
    obtain rfl : i = 0 := by omega
    simp at hi; subst hi; simp [World.cell?, Addr.add, h, hsz]
theorem mcheck_is (w : World) (r : Int) (e p : Int) (A2 : Option Addr) (c2 : Nat) (l2 : List S29) (A3 : Option Addr) (c3 : Nat) (l3 : List Int)
    (h : Kd.C k29 w A2 l2.length l2 ∧ l2.length ≤ c2 ∧ Kd.C (Kd.int .u64) w A3 l3.length l3 ∧ l3.length ≤ c3) (hr : (if PM.okB e p l2 l3 = true then (0 : Int) else 4) = r) :
    Calls Tryz.prog 8 #[.agg #[.int .u64 e, .int .u8 p, .slice A2 l2.length c2, .slice A3 l3.length c3]] w fun e' w' => e' = .returned (.int .i64 r) ∧ Below w.heap.size w w' := by
  subst hr
  exact mcheck_calls w e p A2 c2 l2 A3 c3 l3 h.1 h.2.1 h.2.2.1 h.2.2.2
def exT : Tx := mtext 1 0 [⟨1, 0⟩] [6, 5]
theorem ex_ok : PM.okB 1 0 [⟨1, 0⟩] [6, 5] = true := by decide
theorem ex_nums : PM.okNums [⟨1, 0⟩] [6, 5] := ⟨by decide, by decide⟩
theorem ex_torn : (PT.takeN (exT ++ [0])).2.2.2.2 = 4 := by decide +kernel
theorem ex_len : exT.length ≤ 1000 := mtext_len ex_ok
theorem ex_swap : (swapS 1000 (-1) [] exT ⟨[], 0, false⟩).2 = 0 := by decide +kernel
theorem ex_one : (swapS 1000 (-1) [] exT ⟨[], 0, false⟩).1.l.length = 1 := by decide +kernel
theorem ex_read : Dk.read (swapS 1000 (-1) [] exT ⟨[], 0, false⟩).1.l Dk.mn = (exT, 0) := by decide +kernel
theorem at_old {w : World} {i : Nat} {x : Obj} (h : w.heap[i]? = some x) (o : Obj) : (w.alloc o).heap[i]? = some x := (RowKit.Below.heap_alloc _ _ _ (heap_lt h)).trans h
theorem at_new (w : World) (o : Obj) {n : Nat} (hn : w.heap.size = n) : (w.alloc o).heap[n]? = some o := by rw [← hn]; exact heap_alloc_new w o
def Rd (w : World) (A2 : Option Addr) (l2 : List S29) (c2 : Nat) (A3 : Option Addr) (l3 : List Int) (c3 : Nat) : Prop := Kd.C k29 w A2 l2.length l2 ∧ l2.length ≤ c2 ∧ Kd.C (Kd.int .u64) w A3 l3.length l3 ∧ l3.length ≤ c3
theorem Rd.below {w w' : World} {A2 : Option Addr} {l2 : List S29} {c2 : Nat} {A3 : Option Addr} {l3 : List Int} {c3 : Nat} (h : Rd w A2 l2 c2 A3 l3 c3) (hB : Below w.heap.size w w') : Rd w' A2 l2 c2 A3 l3 c3 :=
  ⟨Kd.C_below h.1 hB, h.2.1, Kd.C_below h.2.2.1 hB, h.2.2.2⟩
/-- A box, and what its manifest's slices hold. -/
structure MB (w : World) (g : Nat) (e p : Int) (A2 : Option Addr) (l2 : List S29) (c2 : Nat) (A3 : Option Addr) (l3 : List Int) (c3 : Nat) : Prop where
  box : w.heap[g]? = some (.cells #[.int .u64 e, .int .u8 p, .slice A2 l2.length c2, .slice A3 l3.length c3] 26)
  rd : Rd w A2 l2 c2 A3 l3 c3
theorem MB.below {w w' : World} {g : Nat} {e p : Int} {A2 : Option Addr} {l2 : List S29} {c2 : Nat} {A3 : Option Addr} {l3 : List Int} {c3 : Nat} (h : MB w g e p A2 l2 c2 A3 l3 c3) (hB : Below w.heap.size w w') : MB w' g e p A2 l2 c2 A3 l3 c3 :=
  ⟨(hB.block g (heap_lt h.box)).trans h.box, h.rd.below hB⟩
set_option maxHeartbeats 40000000 in
theorem known_calls (w : World) (hL : Crc.Laid w) : Calls Tryz.prog 3 #[] w fun e w' => e = .returned (.bool true) ∧ Below w.heap.size w w' := by
  have HLd := Lib.hid hL
  have hu26 := Tryz.underlying26
  have hu29 := Tryz.underlying29
  clear hL
  go_enter Tryz.func3, Tryz.ntmps3
  go_wp2_with fail
  refine (one_calls w).mono ?_
  rintro e w1 ⟨P1, p1, Q1, q1, rfl, hM1, hB1⟩
  have HB1 := Lib.hid hB1
  have HM1_1 := Lib.hid (hM1.lower (show w.heap.size ≤ w.heap.size from Nat.le_refl _))
  clear hM1 hB1
  go_wp2_with fail
  refine (one_calls w1).mono ?_
  rintro e w2 ⟨P2, p2, Q2, q2, rfl, hM2, hB2⟩
  have HB2 := Lib.hid (HB1.out.trans (hB2.mono HB1.out.size))
  have HM2_2 := Lib.hid (hM2.lower (show w.heap.size ≤ w1.heap.size from HB1.out.size))
  have HM1_2 := Lib.hid (HM1_1.out.below hB2)
  clear HM1_1
  clear hM2 hB2
  go_wp2_with fail
  refine (one_calls w2).mono ?_
  rintro e w3 ⟨P3, p3, Q3, q3, rfl, hM3, hB3⟩
  have HB3 := Lib.hid (HB2.out.trans (hB3.mono HB2.out.size))
  have HM3_3 := Lib.hid (hM3.lower (show w.heap.size ≤ w2.heap.size from HB2.out.size))
  have HM1_3 := Lib.hid (HM1_2.out.below hB3)
  clear HM1_2
  have HM2_3 := Lib.hid (HM2_2.out.below hB3)
  clear HM2_2
  clear hM3 hB3
  go_wp2_with fail
  refine (one_calls w3).mono ?_
  rintro e w4 ⟨P4, p4, Q4, q4, rfl, hM4, hB4⟩
  have HB4 := Lib.hid (HB3.out.trans (hB4.mono HB3.out.size))
  have HM4_4 := Lib.hid (hM4.lower (show w.heap.size ≤ w3.heap.size from HB3.out.size))
  have HM1_4 := Lib.hid (HM1_3.out.below hB4)
  clear HM1_3
  have HM2_4 := Lib.hid (HM2_3.out.below hB4)
  clear HM2_3
  have HM3_4 := Lib.hid (HM3_3.out.below hB4)
  clear HM3_3
  clear hM4 hB4
  go_wp2_with fail
  refine (one_calls w4).mono ?_
  rintro e w5 ⟨P5, p5, Q5, q5, rfl, hM5, hB5⟩
  have HB5 := Lib.hid (HB4.out.trans (hB5.mono HB4.out.size))
  have HM5_5 := Lib.hid (hM5.lower (show w.heap.size ≤ w4.heap.size from HB4.out.size))
  have HM1_5 := Lib.hid (HM1_4.out.below hB5)
  clear HM1_4
  have HM2_5 := Lib.hid (HM2_4.out.below hB5)
  clear HM2_4
  have HM3_5 := Lib.hid (HM3_4.out.below hB5)
  clear HM3_4
  have HM4_5 := Lib.hid (HM4_4.out.below hB5)
  clear HM4_4
  clear hM5 hB5
  go_wp2_with fail
  obtain ⟨Wa, hWa⟩ : ∃ Wa, (((((((w5.alloc (.cells #[.int .u64 0, .int .u8 0, .slice P1 1 p1, .slice Q1 0 q1] 26)).alloc (.cells #[.int .u64 1, .int .u8 0, .slice (some ⟨w5.heap.size + 1 + 1 + 1 + 1 + 1, 0, none⟩) 2 2, .slice Q2 0 q2] 26)).alloc (.cells #[.int .u64 1, .int .u8 0, .slice P3 1 p3, .slice (some ⟨w5.heap.size + 1 + 1 + 1 + 1 + 1 + 1, 0, none⟩) 2 2] 26)).alloc (.cells #[.int .u64 1, .int .u8 2, .slice P4 1 p4, .slice Q4 0 q4] 26)).alloc (.cells #[.int .u64 1, .int .u8 0, .slice (some ⟨w5.heap.size + 1 + 1 + 1 + 1 + 1 + 1 + 1, 0, none⟩) 2 2, .slice Q5 0 q5] 26)).alloc (.cells #[.int .u64 2, .int .u64 0, .int .u64 2, .int .u64 0] 29)).alloc (.cells #[.int .u64 5, .int .u64 5] 22)).alloc (.cells #[.int .u64 1, .int .u64 5, .int .u64 2, .int .u64 4] 29) = Wa := ⟨_, rfl⟩
  have HBa := Lib.hid (show Below w5.heap.size w5 Wa from by rw [← hWa]; exact (((((((((Below.refl w5.heap.size w5).alloc (by first | exact Nat.le_refl _ | (simp; done) | (simp; omega)) (.cells #[.int .u64 0, .int .u8 0, .slice P1 1 p1, .slice Q1 0 q1] 26)).alloc (by first | exact Nat.le_refl _ | (simp; done) | (simp; omega)) (.cells #[.int .u64 1, .int .u8 0, .slice (some ⟨w5.heap.size + 1 + 1 + 1 + 1 + 1, 0, none⟩) 2 2, .slice Q2 0 q2] 26)).alloc (by first | exact Nat.le_refl _ | (simp; done) | (simp; omega)) (.cells #[.int .u64 1, .int .u8 0, .slice P3 1 p3, .slice (some ⟨w5.heap.size + 1 + 1 + 1 + 1 + 1 + 1, 0, none⟩) 2 2] 26)).alloc (by first | exact Nat.le_refl _ | (simp; done) | (simp; omega)) (.cells #[.int .u64 1, .int .u8 2, .slice P4 1 p4, .slice Q4 0 q4] 26)).alloc (by first | exact Nat.le_refl _ | (simp; done) | (simp; omega)) (.cells #[.int .u64 1, .int .u8 0, .slice (some ⟨w5.heap.size + 1 + 1 + 1 + 1 + 1 + 1 + 1, 0, none⟩) 2 2, .slice Q5 0 q5] 26)).alloc (by first | exact Nat.le_refl _ | (simp; done) | (simp; omega)) (.cells #[.int .u64 2, .int .u64 0, .int .u64 2, .int .u64 0] 29)).alloc (by first | exact Nat.le_refl _ | (simp; done) | (simp; omega)) (.cells #[.int .u64 5, .int .u64 5] 22)).alloc (by first | exact Nat.le_refl _ | (simp; done) | (simp; omega)) (.cells #[.int .u64 1, .int .u64 5, .int .u64 2, .int .u64 4] 29)))
  have HK1 := Lib.hid (show Wa.heap[w5.heap.size]? = some (.cells #[.int .u64 0, .int .u8 0, .slice P1 1 p1, .slice Q1 0 q1] 26) from by rw [← hWa]; exact (at_old (at_old (at_old (at_old (at_old (at_old (at_old (at_new w5 (.cells #[.int .u64 0, .int .u8 0, .slice P1 1 p1, .slice Q1 0 q1] 26) rfl) _) _) _) _) _) _) _))
  have HK2 := Lib.hid (show Wa.heap[w5.heap.size + 1]? = some (.cells #[.int .u64 1, .int .u8 0, .slice (some ⟨w5.heap.size + 1 + 1 + 1 + 1 + 1, 0, none⟩) 2 2, .slice Q2 0 q2] 26) from by rw [← hWa]; exact (at_old (at_old (at_old (at_old (at_old (at_old (at_new _ (.cells #[.int .u64 1, .int .u8 0, .slice (some ⟨w5.heap.size + 1 + 1 + 1 + 1 + 1, 0, none⟩) 2 2, .slice Q2 0 q2] 26) (by simp only [World.size_alloc])) _) _) _) _) _) _))
  have HK3 := Lib.hid (show Wa.heap[w5.heap.size + 1 + 1]? = some (.cells #[.int .u64 1, .int .u8 0, .slice P3 1 p3, .slice (some ⟨w5.heap.size + 1 + 1 + 1 + 1 + 1 + 1, 0, none⟩) 2 2] 26) from by rw [← hWa]; exact (at_old (at_old (at_old (at_old (at_old (at_new _ (.cells #[.int .u64 1, .int .u8 0, .slice P3 1 p3, .slice (some ⟨w5.heap.size + 1 + 1 + 1 + 1 + 1 + 1, 0, none⟩) 2 2] 26) (by simp only [World.size_alloc])) _) _) _) _) _))
  have HK4 := Lib.hid (show Wa.heap[w5.heap.size + 1 + 1 + 1]? = some (.cells #[.int .u64 1, .int .u8 2, .slice P4 1 p4, .slice Q4 0 q4] 26) from by rw [← hWa]; exact (at_old (at_old (at_old (at_old (at_new _ (.cells #[.int .u64 1, .int .u8 2, .slice P4 1 p4, .slice Q4 0 q4] 26) (by simp only [World.size_alloc])) _) _) _) _))
  have HK5 := Lib.hid (show Wa.heap[w5.heap.size + 1 + 1 + 1 + 1]? = some (.cells #[.int .u64 1, .int .u8 0, .slice (some ⟨w5.heap.size + 1 + 1 + 1 + 1 + 1 + 1 + 1, 0, none⟩) 2 2, .slice Q5 0 q5] 26) from by rw [← hWa]; exact (at_old (at_old (at_old (at_new _ (.cells #[.int .u64 1, .int .u8 0, .slice (some ⟨w5.heap.size + 1 + 1 + 1 + 1 + 1 + 1 + 1, 0, none⟩) 2 2, .slice Q5 0 q5] 26) (by simp only [World.size_alloc])) _) _) _))
  have HK6 := Lib.hid (show Wa.heap[w5.heap.size + 1 + 1 + 1 + 1 + 1]? = some (.cells #[.int .u64 2, .int .u64 0, .int .u64 2, .int .u64 0] 29) from by rw [← hWa]; exact (at_old (at_old (at_new _ (.cells #[.int .u64 2, .int .u64 0, .int .u64 2, .int .u64 0] 29) (by simp only [World.size_alloc])) _) _))
  have HK7 := Lib.hid (show Wa.heap[w5.heap.size + 1 + 1 + 1 + 1 + 1 + 1]? = some (.cells #[.int .u64 5, .int .u64 5] 22) from by rw [← hWa]; exact (at_old (at_new _ (.cells #[.int .u64 5, .int .u64 5] 22) (by simp only [World.size_alloc])) _))
  have HK8 := Lib.hid (show Wa.heap[w5.heap.size + 1 + 1 + 1 + 1 + 1 + 1 + 1]? = some (.cells #[.int .u64 1, .int .u64 5, .int .u64 2, .int .u64 4] 29) from by rw [← hWa]; exact (at_new _ (.cells #[.int .u64 1, .int .u64 5, .int .u64 2, .int .u64 4] 29) (by simp only [World.size_alloc])))
  rw [hWa]
  clear hWa
  have HR1 := Lib.hid (MadeM.reads (HM1_5.out.below HBa.out))
  clear HM1_5
  have HR2 := Lib.hid (MadeM.reads (HM2_5.out.below HBa.out))
  clear HM2_5
  have HR3 := Lib.hid (MadeM.reads (HM3_5.out.below HBa.out))
  clear HM3_5
  have HR4 := Lib.hid (MadeM.reads (HM4_5.out.below HBa.out))
  clear HM4_5
  have HR5 := Lib.hid (MadeM.reads (HM5_5.out.below HBa.out))
  clear HM5_5
  dsimp only at HR1 HR2 HR3 HR4 HR5
  generalize hg8 : w5.heap.size + 1 + 1 + 1 + 1 + 1 + 1 + 1 = g8 at *
  clear hg8
  generalize hg7 : w5.heap.size + 1 + 1 + 1 + 1 + 1 + 1 = g7 at *
  clear hg7
  generalize hg6 : w5.heap.size + 1 + 1 + 1 + 1 + 1 = g6 at *
  clear hg6
  generalize hg5 : w5.heap.size + 1 + 1 + 1 + 1 = g5 at *
  clear hg5
  generalize hg4 : w5.heap.size + 1 + 1 + 1 = g4 at *
  clear hg4
  generalize hg3 : w5.heap.size + 1 + 1 = g3 at *
  clear hg3
  generalize hg2 : w5.heap.size + 1 = g2 at *
  clear hg2
  have HBA := Lib.hid (HB5.out.trans (HBa.out.mono HB5.out.size))
  clear HBa
  generalize hg1 : w5.heap.size = g1 at *
  have MB1 := Lib.hid (show MB Wa g1 0 0 P1 [⟨1, 0⟩] p1 Q1 [] q1 from ⟨HK1.out, HR1.out⟩)
  have MB2 := Lib.hid (show MB Wa g2 1 0 (some ⟨g6, 0, none⟩) [⟨2, 0⟩, ⟨2, 0⟩] 2 Q2 [] q2 from ⟨HK2.out, parts_at HK6.out, Nat.le_refl _, HR2.out.2.2.1, HR2.out.2.2.2⟩)
  have MB3 := Lib.hid (show MB Wa g3 1 0 P3 [⟨1, 0⟩] p3 (some ⟨g7, 0, none⟩) [5, 5] 2 from ⟨HK3.out, HR3.out.1, HR3.out.2.1, words_at HK7.out, Nat.le_refl _⟩)
  have MB4 := Lib.hid (show MB Wa g4 1 2 P4 [⟨1, 0⟩] p4 Q4 [] q4 from ⟨HK4.out, HR4.out⟩)
  have MB5 := Lib.hid (show MB Wa g5 1 0 (some ⟨g8, 0, none⟩) [⟨1, 5⟩, ⟨2, 4⟩] 2 Q5 [] q5 from ⟨HK5.out, parts_at HK8.out, Nat.le_refl _, HR5.out.2.2.1, HR5.out.2.2.2⟩)
  clear HK1 HK2 HK3 HK4 HK5 HK6 HK7 HK8 HR1 HR2 HR3 HR4 HR5
  refine (one_calls Wa).mono ?_
  rintro e w6 ⟨P6, p6, Q6, q6, rfl, hM6, hB6⟩
  have HB6 := Lib.hid (HBA.out.trans (hB6.mono HBA.out.size))
  have MB1 := Lib.hid (MB1.out.below hB6)
  have MB2 := Lib.hid (MB2.out.below hB6)
  have MB3 := Lib.hid (MB3.out.below hB6)
  have MB4 := Lib.hid (MB4.out.below hB6)
  have MB5 := Lib.hid (MB5.out.below hB6)
  have HR6 := Lib.hid (MadeM.reads hM6)
  dsimp only at HR6
  clear hM6 hB6
  go_upto_region 9 with fail
  obtain ⟨Wb, hWb⟩ : ∃ Wb, (w6.alloc (.cells #[.int .u64 1, .int .u8 0, .slice P6 1 p6, .slice (some ⟨w6.heap.size + 1, 0, none⟩) 2 2] 26)).alloc (.cells #[.int .u64 6, .int .u64 5] 22) = Wb := ⟨_, rfl⟩
  have hBb : Below w6.heap.size w6 Wb := by rw [← hWb]; exact ((Below.refl w6.heap.size w6).alloc (Nat.le_refl _) (.cells #[.int .u64 1, .int .u8 0, .slice P6 1 p6, .slice (some ⟨w6.heap.size + 1, 0, none⟩) 2 2] 26)).alloc (by simp) (.cells #[.int .u64 6, .int .u64 5] 22)
  have hk9 : Wb.heap[w6.heap.size]? = some (.cells #[.int .u64 1, .int .u8 0, .slice P6 1 p6, .slice (some ⟨w6.heap.size + 1, 0, none⟩) 2 2] 26) := by rw [← hWb]; exact at_old (at_new w6 (.cells #[.int .u64 1, .int .u8 0, .slice P6 1 p6, .slice (some ⟨w6.heap.size + 1, 0, none⟩) 2 2] 26) rfl) _
  have hka : Wb.heap[w6.heap.size + 1]? = some (.cells #[.int .u64 6, .int .u64 5] 22) := by rw [← hWb]; exact at_new _ (.cells #[.int .u64 6, .int .u64 5] 22) (by simp only [World.size_alloc])
  rw [hWb]
  have HBb := Lib.hid (HB6.out.trans (hBb.mono HB6.out.size))
  have MB1 := Lib.hid (MB1.out.below hBb)
  have MB2 := Lib.hid (MB2.out.below hBb)
  have MB3 := Lib.hid (MB3.out.below hBb)
  have MB4 := Lib.hid (MB4.out.below hBb)
  have MB5 := Lib.hid (MB5.out.below hBb)
  generalize hga : w6.heap.size + 1 = ga at *
  clear hga
  have MB6 := Lib.hid (show MB Wb w6.heap.size 1 0 P6 [⟨1, 0⟩] p6 (some ⟨ga, 0, none⟩) [6, 5] 2 from ⟨hk9, Kd.C_below HR6.out.1 hBb, HR6.out.2.1, words_at hka, Nat.le_refl _⟩)
  generalize w6.heap.size = g9 at *
  clear hWb hBb hk9 hka HR6
  have MBc := MB1.out
  obtain ⟨k0, k1, k2, k3⟩ := Go.Proofs.YtbffgpfkgmhmhaaGreatDoor.HM.cells4 MBc.box
  simp only [List.length_cons, List.length_nil, Nat.zero_add, Nat.reduceAdd] at k2 k3
  clear MBc
  go_wp2_with fail
  clear k0 k1 k2 k3
  refine (mcheck_is Wb 4 0 0 P1 p1 [⟨1, 0⟩] Q1 q1 [] MB1.out.rd (by decide)).mono ?_
  rintro e x1 ⟨rfl, hB⟩
  have HX1 := Lib.hid (show Below Wb.heap.size Wb x1 from hB)
  clear hB
  have MBc := MB2.out.below HX1.out
  obtain ⟨k0, k1, k2, k3⟩ := Go.Proofs.YtbffgpfkgmhmhaaGreatDoor.HM.cells4 MBc.box
  simp only [List.length_cons, List.length_nil, Nat.zero_add, Nat.reduceAdd] at k2 k3
  clear MBc
  go_wp2_with fail
  clear k0 k1 k2 k3
  refine (mcheck_is x1 4 1 0 (some ⟨g6, 0, none⟩) 2 [⟨2, 0⟩, ⟨2, 0⟩] Q2 q2 [] (MB2.out.rd.below HX1.out) (by decide)).mono ?_
  rintro e x2 ⟨rfl, hB⟩
  have HX2 := Lib.hid (show Below Wb.heap.size Wb x2 from HX1.out.trans (hB.mono HX1.out.size))
  clear hB
  have MBc := MB3.out.below HX2.out
  obtain ⟨k0, k1, k2, k3⟩ := Go.Proofs.YtbffgpfkgmhmhaaGreatDoor.HM.cells4 MBc.box
  simp only [List.length_cons, List.length_nil, Nat.zero_add, Nat.reduceAdd] at k2 k3
  clear MBc
  go_wp2_with fail
  clear k0 k1 k2 k3
  refine (mcheck_is x2 4 1 0 P3 p3 [⟨1, 0⟩] (some ⟨g7, 0, none⟩) 2 [5, 5] (MB3.out.rd.below HX2.out) (by decide)).mono ?_
  rintro e x3 ⟨rfl, hB⟩
  have HX3 := Lib.hid (show Below Wb.heap.size Wb x3 from HX2.out.trans (hB.mono HX2.out.size))
  clear hB
  have MBc := MB4.out.below HX3.out
  obtain ⟨k0, k1, k2, k3⟩ := Go.Proofs.YtbffgpfkgmhmhaaGreatDoor.HM.cells4 MBc.box
  simp only [List.length_cons, List.length_nil, Nat.zero_add, Nat.reduceAdd] at k2 k3
  clear MBc
  go_wp2_with fail
  clear k0 k1 k2 k3
  refine (mcheck_is x3 4 1 2 P4 p4 [⟨1, 0⟩] Q4 q4 [] (MB4.out.rd.below HX3.out) (by decide)).mono ?_
  rintro e x4 ⟨rfl, hB⟩
  have HX4 := Lib.hid (show Below Wb.heap.size Wb x4 from HX3.out.trans (hB.mono HX3.out.size))
  clear hB
  have MBc := MB5.out.below HX4.out
  obtain ⟨k0, k1, k2, k3⟩ := Go.Proofs.YtbffgpfkgmhmhaaGreatDoor.HM.cells4 MBc.box
  simp only [List.length_cons, List.length_nil, Nat.zero_add, Nat.reduceAdd] at k2 k3
  clear MBc
  go_wp2_with fail
  clear k0 k1 k2 k3
  refine (mcheck_is x4 4 1 0 (some ⟨g8, 0, none⟩) 2 [⟨1, 5⟩, ⟨2, 4⟩] Q5 q5 [] (MB5.out.rd.below HX4.out) (by decide)).mono ?_
  rintro e x5 ⟨rfl, hB⟩
  have HX5 := Lib.hid (show Below Wb.heap.size Wb x5 from HX4.out.trans (hB.mono HX4.out.size))
  clear hB
  have MBc := MB6.out.below HX5.out
  obtain ⟨k0, k1, k2, k3⟩ := Go.Proofs.YtbffgpfkgmhmhaaGreatDoor.HM.cells4 MBc.box
  simp only [List.length_cons, List.length_nil, Nat.zero_add, Nat.reduceAdd] at k2 k3
  clear MBc
  go_wp2_with fail
  clear k0 k1 k2 k3
  refine (mcheck_is x5 0 1 0 P6 p6 [⟨1, 0⟩] (some ⟨ga, 0, none⟩) 2 [6, 5] (MB6.out.rd.below HX5.out) (by decide)).mono ?_
  rintro e x6 ⟨rfl, hB⟩
  have HX6 := Lib.hid (show Below Wb.heap.size Wb x6 from HX5.out.trans (hB.mono HX5.out.size))
  clear hB
  go_wp2_with fail
  refine (new_ok x6 1000 (by decide)).mono ?_
  rintro e y1 ⟨d, mb, rfl, hD, hB⟩
  have HD1 := Lib.hid hD
  have HS6 := Lib.hid (show Wb.heap.size ≤ x6.heap.size from HX6.out.size)
  have HY1 := Lib.hid (HX6.out.trans (hB.mono HX6.out.size))
  have HE1 := Lib.hid hB
  clear hD hB
  go_wp2_with fail
  refine (loads_calls y1 HD1.out (Crc.laid_below HLd.out (HBb.out.trans (HY1.out.mono HBb.out.size)))).mono ?_
  rw [show loadN (Dk.read (fs ([] : Lf)) Dk.mn) = (0, 0, [], [], 5) from rfl]
  rintro e y2 ⟨A2, c2, A3, c3, rfl, hM, hB⟩
  dsimp only at *
  have HD2 := Lib.hid (HD1.out.below hB)
  have HY2 := Lib.hid (HY1.out.trans (hB.mono HY1.out.size))
  clear hM hB
  go_upto_region 13 with fail
  have HPx : HM.manifest_Put.f 100001 1 0 [⟨1, 0⟩] [6, 5] = some (bs exT, 0) := by
    have h := PM.put_f 1 0 [⟨1, 0⟩] [6, 5] (by decide) (by decide) ex_nums (by decide) (by decide) 100001 (by decide)
    rw [if_pos ex_ok, mtext_bs] at h
    exact h
  have hBz := (Below.refl y2.heap.size y2).alloc (Nat.le_refl _) (.cells #[.int .u64 0, .int .u8 0, .slice A2 0 c2, .slice A3 0 c3] 26)
  have HY3 := Lib.hid (HY2.out.trans (hBz.mono HY2.out.size))
  have HD3 := Lib.hid (HD2.out.below hBz)
  clear hBz
  generalize y2.alloc (.cells #[.int .u64 0, .int .u8 0, .slice A2 0 c2, .slice A3 0 c3] 26) = y3 at *
  have HRd := Lib.hid (MB6.out.rd.below HY3.out)
  have MBc := MB6.out.below HY3.out
  obtain ⟨k0, k1, k2, k3⟩ := Go.Proofs.YtbffgpfkgmhmhaaGreatDoor.HM.cells4 MBc.box
  simp only [List.length_cons, List.length_nil, Nat.zero_add, Nat.reduceAdd] at k2 k3
  clear MBc
  go_wp2_with fail
  clear k0 k1 k2 k3
  refine (HM.manifest_Put.calls 100001 1 0 P6 p6 [⟨1, 0⟩] (some ⟨ga, 0, none⟩) 2 [6, 5] _ _ y3 HRd.out.1 HRd.out.2.1 HRd.out.2.2.1 HRd.out.2.2.2 HPx ⟨Crc.laid_below HLd.out (HBb.out.trans (HY3.out.mono HBb.out.size))⟩).mono ?_
  rintro e y4 ⟨rfl, hB⟩
  have HY4 := Lib.hid (HY3.out.trans (hB.mono HY3.out.size))
  have HD4 := Lib.hid (HD3.out.below hB)
  clear hB HRd HPx
  have hcat : bs exT ++ (⟨#[0]⟩ : ByteArray) = bs (exT ++ [0]) := cat_bs exT [0]
  have hcs : ¬ 9223372036854775807 < (bs exT).size + (⟨#[0]⟩ : ByteArray).size := by
    have := ex_len
    rw [bs_size]
    show ¬ 9223372036854775807 < exT.length + 1
    omega
  go_wp2_with fail
  refine (take_calls y4 (exT ++ [0]) (by have := ex_len; rw [List.length_append]; simp only [List.length_cons, List.length_nil]; omega) (Crc.laid_below HLd.out (HBb.out.trans (HY4.out.mono HBb.out.size)))).mono ?_
  have ht := ex_torn
  generalize PT.takeN (exT ++ [0]) = m at *
  obtain ⟨me, mp, ml2, ml3, mz⟩ := m
  dsimp only at ht ⊢
  subst ht
  rintro e y5 ⟨B2, d2, B3, d3, rfl, hM, hB⟩
  have HY5 := Lib.hid (HY4.out.trans (hB.mono HY4.out.size))
  have HD5 := Lib.hid (HD4.out.below hB)
  clear hB hM hcat hcs
  go_wp2_with fail
  have hBz := (Below.refl y5.heap.size y5).alloc (Nat.le_refl _) (.cells #[.int .u64 me, .int .u8 mp, .slice B2 ml2.length d2, .slice B3 ml3.length d3] 26)
  have HY6 := Lib.hid (HY5.out.trans (hBz.mono HY5.out.size))
  have HD6 := Lib.hid (HD5.out.below hBz)
  clear hBz
  generalize y5.alloc (.cells #[.int .u64 me, .int .u8 mp, .slice B2 ml2.length d2, .slice B3 ml3.length d3] 26) = y6 at *
  have HBy := Lib.hid (HBb.out.trans (HY6.out.mono HBb.out.size))
  have HMb1 := MB1
  have HMb6 := MB6
  have HWz := HY6
  have MB1 := Lib.hid (MB1.out.below HY6.out)
  have MB6 := Lib.hid (MB6.out.below HY6.out)
  have HWs := Lib.hid HY6.out.size
  clear HY1 HY2 HY3 HY4 HY5 HD1 HD2 HD3 HD4 HD5 HE1
  clear HX1 HX2 HX3 HX4 HX5 HX6 HY6 MB2 MB3 MB4 MB5
  have HNw := Lib.hid (pnew_calls y6.drew (HD6.out.below (Below.refl _ y6).drew) (-1) none 0 [] (by decide) (fun _ => rfl) (fun j hj => by simp at hj))
  refine start_ (n := 20) (S := (fun w' => MB w' g1 0 0 P1 [⟨1, 0⟩] p1 Q1 [] q1 ∧ MB w' g9 1 0 P6 [⟨1, 0⟩] p6 (some ⟨ga, 0, none⟩) [6, 5] 2)) (ds := []) #[false, false, false, false, false, false, false, false, false, false, false, false, false, false, false, false, false, false, false, false] (by kernel_rfl) rfl rfl ⟨MB1.out.below (Below.refl _ y6).drew, MB6.out.below (Below.refl _ y6).drew⟩ (fun hHeld => ?_)
  refine pure_ (i := 0) (N := some 81) (v := ?_) (a' := ?_) #[true, false, false, false, false, false, false, false, false, false, false, false, false, false, false, false, false, false, false, false] rfl rfl (by kernel_rfl) (fun _ _ _ h => h) (Or.inl ⟨by rfl, ?_⟩) ?_ ?_
  rotate_left
  · intro w'
    go_simp
    with_reducible rfl
  rotate_left
  · simp only [Act.put, List.setIfInBounds_toArray, List.set_cons_zero, List.set_cons_succ, i64_w, i32_w]
    rfl
  refine pure_ (i := 1) (N := some 82) (v := ?_) (a' := ?_) #[true, true, false, false, false, false, false, false, false, false, false, false, false, false, false, false, false, false, false, false] rfl rfl (by kernel_rfl) (fun _ _ _ h => h) (Or.inl ⟨by rfl, ?_⟩) ?_ ?_
  rotate_left
  · intro w'
    go_simp
    with_reducible rfl
  rotate_left
  · simp only [Act.put, List.setIfInBounds_toArray, List.set_cons_zero, List.set_cons_succ, i64_w, i32_w]
    rfl
  refine pure_ (i := 2) (N := some 83) (v := ?_) (a' := ?_) #[true, true, true, false, false, false, false, false, false, false, false, false, false, false, false, false, false, false, false, false] rfl rfl (by kernel_rfl) (fun _ _ _ h => h) (Or.inl ⟨by rfl, ?_⟩) ?_ ?_
  rotate_left
  · intro w'
    go_simp
    with_reducible rfl
  rotate_left
  · simp only [Act.put, List.setIfInBounds_toArray, List.set_cons_zero, List.set_cons_succ, i64_w, i32_w]
    rfl
  refine pure_ (i := 3) (N := some 84) (v := ?_) (a' := ?_) #[true, true, true, true, false, false, false, false, false, false, false, false, false, false, false, false, false, false, false, false] rfl rfl (by kernel_rfl) (fun _ _ _ h => h) (Or.inl ⟨by rfl, ?_⟩) ?_ ?_
  rotate_left
  · intro w'
    go_simp
    with_reducible rfl
  rotate_left
  · simp only [Act.put, List.setIfInBounds_toArray, List.set_cons_zero, List.set_cons_succ, i64_w, i32_w]
    rfl
  refine pure_ (i := 4) (N := some 85) (v := ?_) (a' := ?_) #[true, true, true, true, true, false, false, false, false, false, false, false, false, false, false, false, false, false, false, false] rfl rfl (by kernel_rfl) (fun _ _ _ h => h) (Or.inl ⟨by rfl, ?_⟩) ?_ ?_
  rotate_left
  · intro w'
    go_simp
    with_reducible rfl
  rotate_left
  · simp only [Act.put, List.setIfInBounds_toArray, List.set_cons_zero, List.set_cons_succ, i64_w, i32_w]
    rfl
  refine pure_ (i := 5) (N := some 86) (v := ?_) (a' := ?_) #[true, true, true, true, true, true, false, false, false, false, false, false, false, false, false, false, false, false, false, false] rfl rfl (by kernel_rfl) (fun _ _ _ h => h) (Or.inl ⟨by rfl, ?_⟩) ?_ ?_
  rotate_left
  · intro w'
    go_simp
    with_reducible rfl
  rotate_left
  · simp only [Act.put, List.setIfInBounds_toArray, List.set_cons_zero, List.set_cons_succ, i64_w, i32_w]
    rfl
  refine pure_ (i := 6) (N := some 87) (v := ?_) (a' := ?_) #[true, true, true, true, true, true, true, false, false, false, false, false, false, false, false, false, false, false, false, false] rfl rfl (by kernel_rfl) (fun _ _ _ h => h) (Or.inl ⟨by rfl, ?_⟩) ?_ ?_
  rotate_left
  · intro w'
    go_simp
    with_reducible rfl
  rotate_left
  · simp only [Act.put, List.setIfInBounds_toArray, List.set_cons_zero, List.set_cons_succ, i64_w, i32_w]
    rfl
  refine pure_ (i := 7) (N := some 88) (v := ?_) (a' := ?_) #[true, true, true, true, true, true, true, true, false, false, false, false, false, false, false, false, false, false, false, false] rfl rfl (by kernel_rfl) (fun _ _ _ h => h) (Or.inl ⟨by rfl, ?_⟩) ?_ ?_
  rotate_left
  · intro w'
    go_simp
    with_reducible rfl
  rotate_left
  · simp only [Act.put, List.setIfInBounds_toArray, List.set_cons_zero, List.set_cons_succ, i64_w, i32_w]
    rfl
  refine take_ (i := 9) (N := some 90) (v := ?_) (a' := ?_) #[true, true, true, true, true, true, true, true, false, true, false, false, false, false, false, false, false, false, false, false] rfl rfl (by kernel_rfl) (fun _ _ _ h => h) (Or.inl ⟨by rfl, ?_⟩) hHeld ?_ ?_
  rotate_left
  · rintro w' ⟨hb1, hb6⟩
    obtain ⟨k0, k1, k2, k3⟩ := Go.Proofs.YtbffgpfkgmhmhaaGreatDoor.HM.cells4 hb6.box
    simp only [List.length_cons, List.length_nil, Nat.zero_add, Nat.reduceAdd] at k2 k3
    go_simp
    with_reducible rfl
  rotate_left
  · simp only [Act.put, List.setIfInBounds_toArray, List.set_cons_zero, List.set_cons_succ, i64_w, i32_w]
    rfl
  refine one_ (i := 8) (N := some 89) #[true, true, true, true, true, true, true, true, true, true, false, false, false, false, false, false, false, false, false, false] rfl rfl (by kernel_rfl) (by decide) (fun K hK => ?_)
  refine goes_ Tryz.func14 (by kernel_rfl) rfl #[.pointer (some ⟨d, 0, none⟩), .int .i64 (-1), .slice none 0 0] (by rfl) rfl rfl (by simp only [List.map_toArray, List.map_cons, List.map_nil]; rfl) ?_
  refine HNw.out.mono ?_
  rintro e z1 ⟨pb, Ap, cp, rfl, hP, hB, hpb⟩
  have HP1 := Lib.hid hP
  have HZ1 := Lib.hid (show Below y6.heap.size y6 z1 from (Below.refl _ y6).drew.trans hB)
  clear hP hB hpb
  refine ⟨_, rfl, ?_⟩
  refine hK.out _ _ ⟨MB1.out.below HZ1.out, MB6.out.below HZ1.out⟩ (fun hHeld => ?_)
  clear hK K
  refine norm_ (a' := ?_) ?_ ?_
  rotate_left
  · show Act.put _ (some 89) _ = _
    simp only [Act.put, List.setIfInBounds_toArray, List.set_cons_zero, List.set_cons_succ, i64_w, i32_w]
    rfl
  refine one_ (i := 10) (N := some 91) #[true, true, true, true, true, true, true, true, true, true, true, false, false, false, false, false, false, false, false, false] rfl rfl (by kernel_rfl) (by decide) (fun K hK => ?_)
  refine goes_ Tryz.func13 (by kernel_rfl) rfl #[.pointer (some ⟨pb, 0, none⟩), .agg #[.int .u64 1, .int .u8 0, .slice P6 1 p6, .slice (some ⟨ga, 0, none⟩) 2 2]] (by rfl) rfl rfl (by simp only [List.map_toArray, List.map_cons, List.map_nil]; rfl) ?_
  have HRd := Lib.hid (MB6.out.rd.below HZ1.out)
  refine (swap_calls z1 (k := ⟨x6.heap.size, d, mb, 1000, pb, -1, Ap, cp, []⟩) (s := ⟨[], 0, false⟩) HP1.out rfl (show (0 : Nat) < 900000000 by decide) (show -9223372036854775808 ≤ (-1 : Int) ∧ (-1 : Int) ≤ 9223372036854775807 by decide) 1 0 P6 p6 [⟨1, 0⟩] (some ⟨ga, 0, none⟩) 2 [6, 5] (by decide) (by decide) ex_nums HRd.out.1 HRd.out.2.1 HRd.out.2.2.1 HRd.out.2.2.2 (Crc.laid_below HLd.out (HBy.out.trans (HZ1.out.mono HBy.out.size))) ex_ok).mono ?_
  rintro e z2 ⟨rfl, hB, L, hL, hP, hT⟩
  dsimp only at hL hP hT
  rw [show (swapS 1000 (-1) [] (mtext 1 0 [⟨1, 0⟩] [6, 5]) ⟨[], 0, false⟩).2 = 0 from ex_swap]
  have HLl := Lib.hid (show fs L = (swapS 1000 (-1) [] exT ⟨[], 0, false⟩).1.l from hL)
  have HD2 := Lib.hid (show IsD z2 x6.heap.size d mb 1000 L from hP.disk)
  have HBq := Lib.hid (show Below x6.heap.size z1 z2 from hB)
  have HK2 := Lib.hid (show ∀ (g e p : Int) , True from fun _ _ _ => trivial)
  have HMm := Lib.hid ((HWz.out.trans (HZ1.out.mono HWz.out.size)).trans (HBq.out.mono HS6.out))
  clear hL hP hB hT HRd HP1 HK2
  refine ⟨_, rfl, ?_⟩
  refine hK.out _ _ ⟨HMb1.out.below HMm.out, HMb6.out.below HMm.out⟩ (fun hHeld => ?_)
  clear hK K
  refine norm_ (a' := ?_) ?_ ?_
  rotate_left
  · show Act.put _ (some 91) _ = _
    simp only [Act.put, List.setIfInBounds_toArray, List.set_cons_zero, List.set_cons_succ, i64_w, i32_w]
    rfl
  refine pure_ (i := 11) (N := some 92) (v := ?_) (a' := ?_) #[true, true, true, true, true, true, true, true, true, true, true, true, false, false, false, false, false, false, false, false] rfl rfl (by kernel_rfl) (fun _ _ _ h => h) (Or.inl ⟨by rfl, ?_⟩) ?_ ?_
  rotate_left
  · intro w'
    go_simp
    with_reducible rfl
  rotate_left
  · simp only [Act.put, List.setIfInBounds_toArray, List.set_cons_zero, List.set_cons_succ, i64_w, i32_w]
    rfl
  refine pure_ (i := 12) (N := some 93) (v := ?_) (a' := ?_) #[true, true, true, true, true, true, true, true, true, true, true, true, true, false, false, false, false, false, false, false] rfl rfl (by kernel_rfl) (fun _ _ _ h => h) (Or.inl ⟨by rfl, ?_⟩) ?_ ?_
  rotate_left
  · intro w'
    go_simp
    with_reducible rfl
  rotate_left
  · simp only [Act.put, List.setIfInBounds_toArray, List.set_cons_zero, List.set_cons_succ, i64_w, i32_w]
    rfl
  refine pure_ (i := 13) (N := some 94) (v := ?_) (a' := ?_) #[true, true, true, true, true, true, true, true, true, true, true, true, true, true, false, false, false, false, false, false] rfl rfl (by kernel_rfl) (fun _ _ _ h => h) (Or.inl ⟨by rfl, ?_⟩) ?_ ?_
  rotate_left
  · intro w'
    go_simp
    with_reducible rfl
  rotate_left
  · simp only [Act.put, List.setIfInBounds_toArray, List.set_cons_zero, List.set_cons_succ, i64_w, i32_w]
    rfl
  refine pure_ (i := 14) (N := some 95) (v := ?_) (a' := ?_) #[true, true, true, true, true, true, true, true, true, true, true, true, true, true, true, false, false, false, false, false] rfl rfl (by kernel_rfl) (fun _ _ _ h => h) (Or.inl ⟨by rfl, ?_⟩) ?_ ?_
  rotate_left
  · intro w'
    go_simp
    with_reducible rfl
  rotate_left
  · simp only [Act.put, List.setIfInBounds_toArray, List.set_cons_zero, List.set_cons_succ, i64_w, i32_w]
    rfl
  refine take_ (i := 16) (N := some 97) (v := ?_) (a' := ?_) #[true, true, true, true, true, true, true, true, true, true, true, true, true, true, true, false, true, false, false, false] rfl rfl (by kernel_rfl) (fun _ _ _ h => h) (Or.inl ⟨by rfl, ?_⟩) hHeld ?_ ?_
  rotate_left
  · rintro w' ⟨hb1, hb6⟩
    obtain ⟨k0, k1, k2, k3⟩ := Go.Proofs.YtbffgpfkgmhmhaaGreatDoor.HM.cells4 hb1.box
    simp only [List.length_cons, List.length_nil, Nat.zero_add, Nat.reduceAdd] at k2 k3
    go_simp
    with_reducible rfl
  rotate_left
  · simp only [Act.put, List.setIfInBounds_toArray, List.set_cons_zero, List.set_cons_succ, i64_w, i32_w]
    rfl
  refine one_ (i := 15) (N := some 96) #[true, true, true, true, true, true, true, true, true, true, true, true, true, true, true, true, true, false, false, false] rfl rfl (by kernel_rfl) (by decide) (fun K hK => ?_)
  refine goes_ Tryz.func14 (by kernel_rfl) rfl #[.pointer (some ⟨d, 0, none⟩), .int .i64 (-1), .slice none 0 0] (by rfl) rfl rfl (by simp only [List.map_toArray, List.map_cons, List.map_nil]; rfl) ?_
  refine (pnew_calls z2 HD2.out (-1) none 0 [] (by decide) (fun _ => rfl) (fun j hj => by simp at hj)).mono ?_
  rintro e z3 ⟨pb2, Ap2, cp2, rfl, hP, hB, hpb⟩
  have HZ3 := Lib.hid (((HWz.out.trans (HZ1.out.mono HWz.out.size)).trans (HBq.out.mono HS6.out)).trans (hB.mono (by have h1 := HZ1.out.size; have h2 := HBq.out.size; have h3 := HWz.out.size; omega)))
  have HD3 := Lib.hid (HD2.out.below hB)
  clear hP hB hpb
  refine ⟨_, rfl, ?_⟩
  refine hK.out _ _ ⟨HMb1.out.below HZ3.out, HMb6.out.below HZ3.out⟩ (fun hHeld => ?_)
  clear hK K
  refine norm_ (a' := ?_) ?_ ?_
  rotate_left
  · show Act.put _ (some 96) _ = _
    simp only [Act.put, List.setIfInBounds_toArray, List.set_cons_zero, List.set_cons_succ, i64_w, i32_w]
    rfl
  refine one_ (i := 17) (N := some 98) #[true, true, true, true, true, true, true, true, true, true, true, true, true, true, true, true, true, true, false, false] rfl rfl (by kernel_rfl) (by decide) (fun K hK => ?_)
  refine goes_ Tryz.func13 (by kernel_rfl) rfl #[.pointer (some ⟨pb2, 0, none⟩), .agg #[.int .u64 0, .int .u8 0, .slice P1 1 p1, .slice Q1 0 q1]] (by rfl) rfl rfl (by simp only [List.map_toArray, List.map_cons, List.map_nil]; rfl) ?_
  have HRd := Lib.hid (HMb1.out.rd.below HZ3.out)
  refine (swap_bad z3 (some ⟨pb2, 0, none⟩) 0 0 P1 p1 [⟨1, 0⟩] Q1 q1 [] (by decide) (by decide) ⟨by decide, by decide⟩ (by decide) (by decide) HRd.out.1 HRd.out.2.1 HRd.out.2.2.1 HRd.out.2.2.2 (Crc.laid_below HLd.out (HBb.out.trans (HZ3.out.mono HBb.out.size))) (by decide)).mono ?_
  rintro e z4 ⟨rfl, hB⟩
  have HZ4 := Lib.hid (HZ3.out.trans (hB.mono HZ3.out.size))
  have HD4 := Lib.hid (HD3.out.below hB)
  clear hB HRd
  refine ⟨_, rfl, ?_⟩
  refine hK.out _ _ ⟨HMb1.out.below HZ4.out, HMb6.out.below HZ4.out⟩ (fun hHeld => ?_)
  clear hK K
  refine norm_ (a' := ?_) ?_ ?_
  rotate_left
  · show Act.put _ (some 98) _ = _
    simp only [Act.put, List.setIfInBounds_toArray, List.set_cons_zero, List.set_cons_succ, i64_w, i32_w]
    rfl
  refine pure_ (i := 18) (N := some 99) (v := ?_) (a' := ?_) #[true, true, true, true, true, true, true, true, true, true, true, true, true, true, true, true, true, true, true, false] rfl rfl (by kernel_rfl) (fun _ _ _ h => h) (Or.inl ⟨by rfl, ?_⟩) ?_ ?_
  rotate_left
  · intro w'
    go_simp
    with_reducible rfl
  rotate_left
  · simp only [Act.put, List.setIfInBounds_toArray, List.set_cons_zero, List.set_cons_succ, i64_w, i32_w]
    rfl
  refine pure_ (i := 19) (N := some 100) (v := ?_) (a' := ?_) #[true, true, true, true, true, true, true, true, true, true, true, true, true, true, true, true, true, true, true, true] rfl rfl (by kernel_rfl) (fun _ _ _ h => h) (Or.inl ⟨by rfl, ?_⟩) ?_ ?_
  rotate_left
  · intro w'
    go_simp
    with_reducible rfl
  rotate_left
  · simp only [Act.put, List.setIfInBounds_toArray, List.set_cons_zero, List.set_cons_succ, i64_w, i32_w]
    rfl
  refine done_ (by kernel_rfl) ?_
  clear hHeld HNw
  go_wp2_with fail
  refine (loads_calls z4 HD4.out (Crc.laid_below HLd.out (HBb.out.trans (HZ4.out.mono HBb.out.size)))).mono ?_
  rw [show loadN (Dk.read (fs L) Dk.mn) = (1, 0, [⟨1, 0⟩], [6, 5], 0) from by rw [HLl.out, ex_read]; exact take_mtext (by decide) (by decide) ex_nums ex_ok]
  rintro e z5 ⟨C2, f2, C3, f3, rfl, hM, hB⟩
  have HZ5 := Lib.hid (HZ4.out.trans (hB.mono HZ4.out.size))
  have HD5 := Lib.hid (HD4.out.below hB)
  have HM5 := Lib.hid hM
  dsimp only
  clear hB hM
  go_upto_region 18 with fail
  have hBz := (Below.refl z5.heap.size z5).alloc (Nat.le_refl _) (.cells #[.int .u64 1, .int .u8 0, .slice C2 1 f2, .slice C3 2 f3] 26)
  have HZ6 := Lib.hid (HZ5.out.trans (hBz.mono HZ5.out.size))
  have HD6 := Lib.hid (HD5.out.below hBz)
  have HM6 := Lib.hid (HM5.out.below hBz)
  clear hBz
  have hk14 := heap_alloc_new z5 (.cells #[.int .u64 1, .int .u8 0, .slice C2 1 f2, .slice C3 2 f3] 26)
  generalize z5.alloc (.cells #[.int .u64 1, .int .u8 0, .slice C2 1 f2, .slice C3 2 f3] 26) = z6 at *
  obtain ⟨l0, l1, l2, l3⟩ := Go.Proofs.YtbffgpfkgmhmhaaGreatDoor.HM.cells4 hk14
  have MBc := HMb6.out.below HZ6.out
  obtain ⟨k0, k1, k2, k3⟩ := Go.Proofs.YtbffgpfkgmhmhaaGreatDoor.HM.cells4 MBc.box
  simp only [List.length_cons, List.length_nil, Nat.zero_add, Nat.reduceAdd] at k2 k3
  clear MBc
  go_wp2_with fail
  clear k0 k1 k2 k3 l0 l1 l2 l3 hk14
  refine (msame_calls z6 (1, 0, [⟨1, 0⟩], [6, 5], 0) (1, 0, [⟨1, 0⟩], [6, 5], 0) C2 f2 C3 f3 P6 p6 (some ⟨ga, 0, none⟩) 2 (MadeM.reads HM6.out) (HMb6.out.rd.below HZ6.out) (by decide)).mono ?_
  rintro e z7 ⟨b, rfl, hbt, hB⟩
  obtain rfl := hbt rfl
  have HZ7 := Lib.hid (HZ6.out.trans (hB.mono HZ6.out.size))
  have HD7 := Lib.hid (HD6.out.below hB)
  clear hB hbt
  go_wp2_with fail
  refine (list_calls z7 HD7.out).mono ?_
  rintro e z8 ⟨v, rfl, hrow, hB⟩
  obtain ⟨A9, cap9, rfl, _⟩ := row_at (l := (fs L).map (·.1)) (by rw [List.map_map]; exact hrow) (by simp)
  have HZ8 := Lib.hid (HZ7.out.trans (hB.mono HZ7.out.size))
  have hlen : ((fs L).map (·.1)).length = 1 := by rw [List.length_map, HLl.out]; exact ex_one
  rw [hlen]
  clear hB hrow hlen
  have MBc := HMb6.out.below HZ8.out
  obtain ⟨k0, k1, k2, k3⟩ := Go.Proofs.YtbffgpfkgmhmhaaGreatDoor.HM.cells4 MBc.box
  simp only [List.length_cons, List.length_nil, Nat.zero_add, Nat.reduceAdd] at k2 k3
  clear MBc
  go_wp2_with fail
  clear k0 k1 k2 k3
  have HRd := Lib.hid (HMb6.out.rd.below HZ8.out)
  refine (swap_no z8 1 0 P6 p6 [⟨1, 0⟩] (some ⟨ga, 0, none⟩) 2 [6, 5] (by decide) (by decide) ex_nums HRd.out.1 HRd.out.2.1 HRd.out.2.2.1 HRd.out.2.2.2 (Crc.laid_below HLd.out (HBb.out.trans (HZ8.out.mono HBb.out.size))) ex_ok).mono ?_
  rintro e z9 ⟨rfl, hB⟩
  have HZ9 := Lib.hid (HZ8.out.trans (hB.mono HZ8.out.size))
  clear hB HRd
  go_wp2_with fail
  refine (mawake_calls z9 (Crc.laid_below HLd.out (HBb.out.trans (HZ9.out.mono HBb.out.size)))).mono ?_
  rintro e za ⟨rfl, hB⟩
  have HZa := Lib.hid (HZ9.out.trans (hB.mono HZ9.out.size))
  clear hB
  go_wp2_with fail
  go_ret
  exact ⟨rfl, HBb.out.trans (HZa.out.mono HBb.out.size)⟩
end Go.Proofs.YtbffgpfkgmhmhaaGreatDoor.Dw
