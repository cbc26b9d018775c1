/- Plain laws on the 64-bit words of the mix: what xor, shift and product do; that each step of the mix tells its argument. -/
import Derived.Laws.BitsLemmas
import Derived.WalkKit
import Derived.RowKit
namespace Go.Proofs.Ytmcmjhhkecflaaa.Mixing
open Go.RowKit

theorem wrap_u64 (n : Int) : IntKind.u64.wrap n = n % 18446744073709551616 := by simp [IntKind.wrap, IntKind.bits, IntKind.signed]

theorem wf_u64 {n : Int} (h : (Lit.int .u64 n).wf = true) : 0 ≤ n ∧ n < 18446744073709551616 := by
  simp [Lit.wf, IntKind.min, IntKind.max, IntKind.signed, IntKind.bits] at h
  omega

theorem wf_i64 {n : Int} (h : (Lit.int .i64 n).wf = true) : -9223372036854775808 ≤ n ∧ n < 9223372036854775808 := by
  simp [Lit.wf, IntKind.min, IntKind.max, IntKind.signed, IntKind.bits] at h
  omega

theorem xor_nat (a b : Nat) (ha : a < 18446744073709551616) (hb : b < 18446744073709551616) :
    Go.bits .xor .u64 a b = ((a ^^^ b : Nat) : Int) := by
  have hx : a ^^^ b < 2 ^ 64 := Nat.xor_lt_two_pow ha hb
  have e : (BitVec.ofInt 64 (a : Int) ^^^ BitVec.ofInt 64 (b : Int)).toNat = a ^^^ b := by
    rw [BitVec.toNat_xor, BitVec.ofInt_natCast, BitVec.ofInt_natCast, BitVec.toNat_ofNat, BitVec.toNat_ofNat, Nat.mod_eq_of_lt (show a < 2 ^ 64 from ha), Nat.mod_eq_of_lt (show b < 2 ^ 64 from hb)]
  show IntKind.u64.wrap (((BitVec.ofInt 64 (a : Int) ^^^ BitVec.ofInt 64 (b : Int)).toNat : Nat) : Int) = _
  rw [e, wrap_u64]
  have : ((a ^^^ b : Nat) : Int) < ((18446744073709551616 : Nat) : Int) := Int.ofNat_lt.2 hx
  omega

/-- a number and itself shifted down: from its result it is known. -/
theorem shift_tells (j : Nat) (hj : 0 < j) (a b : Nat) (h : a ^^^ (a >>> j) = b ^^^ (b >>> j)) : a = b := by
  have e : (a ^^^ b) = (a ^^^ b) >>> j := by
    rw [Nat.shiftRight_xor_distrib]
    have h2 : (a ^^^ (a >>> j)) ^^^ ((a >>> j) ^^^ b) = (b ^^^ (b >>> j)) ^^^ ((a >>> j) ^^^ b) := by rw [h]
    have l : (a ^^^ (a >>> j)) ^^^ ((a >>> j) ^^^ b) = a ^^^ b := by
      rw [Nat.xor_assoc, ← Nat.xor_assoc (a >>> j), Nat.xor_self, Nat.zero_xor]
    have r : (b ^^^ (b >>> j)) ^^^ ((a >>> j) ^^^ b) = (a >>> j) ^^^ (b >>> j) := by
      rw [Nat.xor_comm b, Nat.xor_comm (a >>> j) b, Nat.xor_assoc, ← Nat.xor_assoc b b, Nat.xor_self, Nat.zero_xor, Nat.xor_comm]
    rw [l, r] at h2
    exact h2
  have z : a ^^^ b = 0 := by
    rw [Nat.shiftRight_eq_div_pow] at e
    have p : 2 ^ 1 ≤ 2 ^ j := Nat.pow_le_pow_right (by decide) hj
    generalize a ^^^ b = z at e ⊢
    rcases Nat.eq_zero_or_pos z with h0 | h0
    · exact h0
    · have := Nat.div_lt_self h0 (show 1 < 2 ^ j by omega)
      omega
  have y : (a ^^^ b) ^^^ b = b := by rw [z, Nat.zero_xor]
  rwa [Nat.xor_assoc, Nat.xor_self, Nat.xor_zero] at y

def xs (j : Nat) (a : Nat) : Nat := a ^^^ (a >>> j)
theorem xs_lt (j a : Nat) (h : a < 18446744073709551616) : xs j a < 18446744073709551616 := by
  have h1 : a >>> j ≤ a := by rw [Nat.shiftRight_eq_div_pow]; exact Nat.div_le_self _ _
  exact Nat.xor_lt_two_pow (n := 64) h (Nat.lt_of_le_of_lt h1 h)
theorem xs_bits (a d j : Nat) (hd : d = 2 ^ j) (h : a < 18446744073709551616) : Go.bits .xor .u64 (a : Int) ((a : Int) / (d : Int)) = ((xs j a : Nat) : Int) := by
  subst hd
  have h1 : a >>> j ≤ a := by rw [Nat.shiftRight_eq_div_pow]; exact Nat.div_le_self _ _
  rw [show ((a : Int) / ((2 ^ j : Nat) : Int)) = ((a >>> j : Nat) : Int) from by rw [Nat.shiftRight_eq_div_pow, Int.natCast_ediv]]
  exact xor_nat a (a >>> j) h (Nat.lt_of_le_of_lt h1 h)

def ml (c a : Nat) : Nat := (a * c) % 18446744073709551616
theorem ml_lt (c a : Nat) : ml c a < 18446744073709551616 := Nat.mod_lt _ (by decide)
theorem ml_wrap (c a : Nat) : IntKind.u64.wrap ((a : Int) * (c : Int)) = ((ml c a : Nat) : Int) := by
  rw [wrap_u64]; unfold ml; rw [Int.natCast_emod, Int.natCast_mul]; rfl
/-- a product with a number that has an inverse tells the other factor. -/
theorem ml_tells (c d : Nat) (hcd : (c * d) % 18446744073709551616 = 1) (a b : Nat) (ha : a < 18446744073709551616) (hb : b < 18446744073709551616) (h : ml c a = ml c b) : a = b := by
  have k : ∀ x, x < 18446744073709551616 → (ml c x * d) % 18446744073709551616 = x := by
    intro x hx
    unfold ml
    rw [Nat.mul_mod, Nat.mod_mod, ← Nat.mul_mod, Nat.mul_assoc, Nat.mul_mod, hcd, Nat.mul_one, Nat.mod_mod]
    exact Nat.mod_eq_of_lt hx
  rw [← k a ha, ← k b hb, h]

/-- the mix, over the natural numbers. -/
def mixN (a : Nat) : Nat := xs 31 (ml 10723151780598845931 (xs 27 (ml 13787848793156543929 (xs 30 a))))
theorem mixN_lt (a : Nat) : mixN a < 18446744073709551616 := xs_lt _ _ (ml_lt _ _)
theorem mixN_tells (a b : Nat) (ha : a < 18446744073709551616) (hb : b < 18446744073709551616) (h : mixN a = mixN b) : a = b := by
  have h1 := shift_tells 31 (by decide) _ _ h
  have h2 := ml_tells 10723151780598845931 3573116690164977347 (by decide) _ _ (xs_lt _ _ (ml_lt _ _)) (xs_lt _ _ (ml_lt _ _)) h1
  have h3 := shift_tells 27 (by decide) _ _ h2
  have h4 := ml_tells 13787848793156543929 10871156337175269513 (by decide) _ _ (xs_lt _ _ ha) (xs_lt _ _ hb) h3
  exact shift_tells 30 (by decide) _ _ h4

/-- the mix as Go's text says it. -/
theorem mix_is (a : Nat) (h : a < 18446744073709551616) :
    (Go.bits .xor .u64 (IntKind.u64.wrap ((Go.bits .xor .u64 (IntKind.u64.wrap ((Go.bits .xor .u64 (a : Int) ((a : Int) / 1073741824)) * 13787848793156543929)) ((IntKind.u64.wrap ((Go.bits .xor .u64 (a : Int) ((a : Int) / 1073741824)) * 13787848793156543929)) / 134217728)) * 10723151780598845931)) ((IntKind.u64.wrap ((Go.bits .xor .u64 (IntKind.u64.wrap ((Go.bits .xor .u64 (a : Int) ((a : Int) / 1073741824)) * 13787848793156543929)) ((IntKind.u64.wrap ((Go.bits .xor .u64 (a : Int) ((a : Int) / 1073741824)) * 13787848793156543929)) / 134217728)) * 10723151780598845931)) / 2147483648)) = ((mixN a : Nat) : Int) := by
  have e1 := xs_bits a 1073741824 30 (by decide) h
  have e2 := ml_wrap 13787848793156543929 (xs 30 a)
  have e3 := xs_bits (ml 13787848793156543929 (xs 30 a)) 134217728 27 (by decide) (ml_lt _ _)
  have e4 := ml_wrap 10723151780598845931 (xs 27 (ml 13787848793156543929 (xs 30 a)))
  have e5 := xs_bits (ml 10723151780598845931 (xs 27 (ml 13787848793156543929 (xs 30 a)))) 2147483648 31 (by decide) (ml_lt _ _)
  rw [show ((1073741824 : Nat) : Int) = 1073741824 from rfl] at e1
  rw [show ((13787848793156543929 : Nat) : Int) = 13787848793156543929 from rfl] at e2
  rw [show ((134217728 : Nat) : Int) = 134217728 from rfl] at e3
  rw [show ((10723151780598845931 : Nat) : Int) = 10723151780598845931 from rfl] at e4
  rw [show ((2147483648 : Nat) : Int) = 2147483648 from rfl] at e5
  rw [e1, e2, e3, e4, e5]
  rfl
end Go.Proofs.Ytmcmjhhkecflaaa.Mixing
