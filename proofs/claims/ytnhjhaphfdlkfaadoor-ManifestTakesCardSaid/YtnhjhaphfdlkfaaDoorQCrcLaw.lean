/- The plain law of the checksum: four bits by the table are four single bits; so a byte by the table is eight single bits. -/
import Derived.Test.YtnhjhaphfdlkfaaDoorQCrc
set_option linter.unusedVariables false
namespace Go.Proofs.YtnhjhaphfdlkfaaDoor.CrcLaw
open Go.RowKit
/-- One bit. -/
def tb (c : Nat) : Nat := if c % 2 = 1 then (c / 2) ^^^ 3988292384 else c / 2
/-- The table over the natural numbers. -/
def tabN (i : Nat) : Nat := [0, 498536548, 997073096, 651767980, 1994146192, 1802195444, 1303535960, 1342533948, 3988292384, 4027552580, 3604390888, 3412177804, 2607071920, 2262029012, 2685067896, 3183342108].getD i 0
def halfN (c : Nat) : Nat := tabN (c % 16) ^^^ (c / 16)
def stepN (c b : Nat) : Nat := halfN (halfN (c ^^^ b))
theorem xor_div2 (a b : Nat) : (a ^^^ b) / 2 = (a / 2) ^^^ (b / 2) := by
  have := Nat.shiftRight_xor_distrib (a := a) (b := b) (i := 1)
  simpa [Nat.shiftRight_eq_div_pow] using this
theorem xor_mod2 (a b : Nat) : (a ^^^ b) % 2 = (a % 2 + b % 2) % 2 := by
  have h : (a ^^^ b) % 2 ^ 1 = (a % 2 ^ 1) ^^^ (b % 2 ^ 1) := Nat.xor_mod_two_pow
  simp only [Nat.pow_one] at h
  rw [h]
  rcases Nat.mod_two_eq_zero_or_one a with ha | ha <;> rcases Nat.mod_two_eq_zero_or_one b with hb | hb <;> rw [ha, hb] <;> rfl
theorem tb_xor (a b : Nat) : tb (a ^^^ b) = tb a ^^^ tb b := by
  unfold tb
  rw [xor_mod2, xor_div2]
  have c1 : ∀ x y p : Nat, x ^^^ y ^^^ p = x ^^^ p ^^^ y := fun x y p => by rw [Nat.xor_assoc, Nat.xor_comm y p, ← Nat.xor_assoc]
  rcases Nat.mod_two_eq_zero_or_one a with ha | ha <;> rcases Nat.mod_two_eq_zero_or_one b with hb | hb <;> rw [ha, hb]
  · simp
  · simp [Nat.xor_assoc]
  · simp [c1]
  · simp only [Nat.reduceAdd, Nat.reduceMod, if_true]
    rw [if_neg (by decide)]
    rw [← Nat.xor_assoc, c1 (a / 2) 3988292384 (b / 2), Nat.xor_assoc (a / 2 ^^^ b / 2), Nat.xor_self, Nat.xor_zero]
theorem tb_even (q : Nat) : tb (2 * q) = q := by
  unfold tb
  rw [if_neg (by omega)]; omega
theorem tb_bit (c b q : Nat) (hb : b < 2) : tb (c ^^^ (b + 2 * q)) = tb (c ^^^ b) ^^^ q := by
  have e : b + 2 * q = b ^^^ (2 * q) := by
    have h2 := Nat.two_pow_add_eq_or_of_lt (i := 1) (b := b) (by simpa using hb) q
    have h3 : 2 * q ||| b = 2 * q ^^^ b := by
      apply Nat.eq_of_testBit_eq
      intro i
      rw [Nat.testBit_or, Nat.testBit_xor]
      cases i with
      | zero =>
        have : (2 * q).testBit 0 = false := by simp [Nat.testBit_zero]
        rw [this]; simp
      | succ i =>
        have : b.testBit (i + 1) = false := Nat.testBit_lt_two_pow (Nat.lt_of_lt_of_le hb (by rw [Nat.pow_succ]; have := Nat.one_le_two_pow (n := i); omega))
        rw [this]; simp
    simp only [Nat.pow_one] at h2
    rw [Nat.xor_comm, ← h3, ← h2]; omega
  rw [e, ← Nat.xor_assoc, tb_xor, tb_even]
theorem half_is (c : Nat) : halfN c = tb (tb (tb (tb c))) := by
  obtain ⟨q, r, hr, rfl⟩ : ∃ q r, r < 16 ∧ c = r + 16 * q := ⟨c / 16, c % 16, Nat.mod_lt _ (by decide), by omega⟩
  have b : ∀ r, r < 16 → r = r % 2 + 2 * (r / 2 % 2 + 2 * (r / 4 % 2 + 2 * (r / 8))) := by intro r hr; omega
  unfold halfN
  have e1 : (r + 16 * q) % 16 = r := by omega
  have e2 : (r + 16 * q) / 16 = q := by omega
  rw [e1, e2]
  have z : ∀ x, (0 : Nat) ^^^ x = x := Nat.zero_xor
  have s1 : tb (r + 16 * q) = tb r ^^^ (8 * q) := by
    have := tb_bit 0 (r % 2) (r / 2 + 8 * q) (by omega)
    have e : r % 2 + 2 * (r / 2 + 8 * q) = r + 16 * q := by omega
    rw [z, z, e] at this
    rw [this]
    have t := tb_bit 0 (r % 2) (r / 2) (by omega)
    have e' : r % 2 + 2 * (r / 2) = r := by omega
    rw [z, z, e'] at t
    rw [t, Nat.xor_assoc]
    congr 1
    have h2 := Nat.two_pow_add_eq_or_of_lt (i := 3) (b := r / 2) (by omega) q
    have h3 : 2 ^ 3 * q ||| r / 2 = 2 ^ 3 * q ^^^ r / 2 := by
      apply Nat.eq_of_testBit_eq
      intro i
      rw [Nat.testBit_or, Nat.testBit_xor, Nat.testBit_two_pow_mul]
      by_cases h : 3 ≤ i
      · have : (r / 2).testBit i = false := Nat.testBit_lt_two_pow (Nat.lt_of_lt_of_le (show r / 2 < 2 ^ 3 by omega) (Nat.pow_le_pow_right (by decide) h))
        rw [this]; simp
      · simp [h]
    have e3 : (2 : Nat) ^ 3 * q = 8 * q := by omega
    rw [e3] at h2 h3
    rw [Nat.xor_comm, ← h3, ← h2]; omega
  have d : ∀ q, tb (2 * q) = q := tb_even
  rw [s1, tb_xor, show 8 * q = 2 * (4 * q) by omega, d, tb_xor, show 4 * q = 2 * (2 * q) by omega, d, tb_xor, d]
  congr 1
  have : ∀ r, r < 16 → tabN r = tb (tb (tb (tb r))) := by decide
  exact this r hr
/-- Eight bits of a byte, one behind the other. -/
def bits8 (c b : Nat) : Nat :=
  let f := fun c i => tb (c ^^^ (b / 2 ^ i % 2))
  f (f (f (f (f (f (f (f c 0) 1) 2) 3) 4) 5) 6) 7
theorem step_is (c b : Nat) (hb : b < 256) : stepN c b = bits8 c b := by
  unfold stepN bits8
  rw [half_is, half_is]
  have e : b = b / 2 ^ 0 % 2 + 2 * (b / 2 ^ 1 % 2 + 2 * (b / 2 ^ 2 % 2 + 2 * (b / 2 ^ 3 % 2 + 2 * (b / 2 ^ 4 % 2 + 2 * (b / 2 ^ 5 % 2 + 2 * (b / 2 ^ 6 % 2 + 2 * (b / 2 ^ 7 % 2 + 2 * 0))))))) := by
    simp only [Nat.reducePow]; omega
  have m : ∀ i, b / 2 ^ i % 2 < 2 := fun i => Nat.mod_lt _ (by decide)
  conv => lhs; rw [e]
  rw [tb_bit _ _ _ (m 0), tb_bit _ _ _ (m 1), tb_bit _ _ _ (m 2), tb_bit _ _ _ (m 3), tb_bit _ _ _ (m 4), tb_bit _ _ _ (m 5), tb_bit _ _ _ (m 6), tb_bit _ _ _ (m 7), Nat.xor_zero]
end Go.Proofs.YtnhjhaphfdlkfaaDoor.CrcLaw
