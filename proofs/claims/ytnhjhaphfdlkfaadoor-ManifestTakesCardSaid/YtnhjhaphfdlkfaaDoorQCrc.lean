/- crc.step: what it makes of a number and a byte, given that the table holds what the program's text lays. -/
import Derived.Test.YtnhjhaphfdlkfaaDoorProg
import Derived.Test.YtnhjhaphfdlkfaaDoorQWWords
import Derived.Test.YtnhjhaphfdlkfaaDoorQWLast
import Derived.Test.YtnhjhaphfdlkfaaDoorQWMore
import Derived.Test.YtnhjhaphfdlkfaaDoorQWKept
import Derived.WalkKit
import Derived.KernelRfl
import Derived.Deep.LoopGhost
import Derived.Lib.Hide
import Derived.IntWalk
set_option linter.unusedVariables false
namespace Go.Proofs.YtnhjhaphfdlkfaaDoor.Crc
open Go.RowKit Go.Proofs.YtnhjhaphfdlkfaaDoorW.PrintWords Go.Proofs.YtnhjhaphfdlkfaaDoorW.PrintLast Go.Proofs.YtnhjhaphfdlkfaaDoorW.PrintMore
/-- The table, as the program's text has it. -/
def tabL : List Int := [0, 498536548, 997073096, 651767980, 1994146192, 1802195444, 1303535960, 1342533948, 3988292384, 4027552580, 3604390888, 3412177804, 2607071920, 2262029012, 2685067896, 3183342108]
def tab (i : Int) : Int := tabL.getD i.toNat 0
/-- The table lies where the variable lies. -/
def Laid (w : World) : Prop := ∀ i, i < 16 → w.cell? ⟨0, i, none⟩ = some (.int .u32 (tabL.getD i 0))
theorem laid_lt {w : World} (h : Laid w) : 0 < w.heap.size := World.block_lt_of_cell? w ⟨0, 0, none⟩ (h 0 (by decide))
theorem laid_below {w w' : World} (h : Laid w) (hb : Below w.heap.size w w') : Laid w' := fun i hi => by
  have := hb.cell (p := ⟨0, i, none⟩) (laid_lt h)
  rw [this]; exact h i hi
theorem laid_drew {w : World} (h : Laid w) : Laid w.drew := fun i hi => h i hi
theorem laid_drewN {w : World} (h : Laid w) (n : Nat) : Laid (w.drewN n) := fun i hi => h i hi
theorem and15 (x : Int) : 0 ≤ Go.bits .and .u32 x 15 ∧ Go.bits .and .u32 x 15 < 16 := by
  have e : (BitVec.ofInt 32 (15 : Int)).toNat = 15 := by decide
  have h : (BitVec.ofInt 32 x &&& BitVec.ofInt 32 15).toNat < 16 := by
    rw [BitVec.toNat_and, e]
    exact Nat.and_lt_two_pow (n := 4) _ (by decide)
  show 0 ≤ IntKind.u32.wrap (((BitVec.ofInt 32 x &&& BitVec.ofInt 32 15).toNat : Nat) : Int) ∧ IntKind.u32.wrap (((BitVec.ofInt 32 x &&& BitVec.ofInt 32 15).toNat : Nat) : Int) < 16
  generalize (BitVec.ofInt 32 x &&& BitVec.ofInt 32 15).toNat = n at h
  rw [IntKind.wrap_u32]
  omega
/-- Half a step: by four bits. -/
def half (c : Int) : Int := Go.bits .xor .u32 (tab (Go.bits .and .u32 c 15)) (c / 16)
def stepI (c b : Int) : Int := half (half (Go.bits .xor .u32 c b))
theorem look (w : World) (h : Laid w) (i : Int) (h0 : 0 ≤ i) (h1 : i < 16) : w.cell? ⟨0, i.toNat, none⟩ = some (.int .u32 (tab i)) := h i.toNat (by omega)
set_option maxHeartbeats 1000000 in
set_option maxRecDepth 100000 in
theorem step_calls (c b : Int) (hb0 : 0 ≤ b) (hb1 : b < 256) (w : World) (HL : Laid w) :
    Calls Tryd.prog 82 #[.int .u32 c, .int .u8 b] w fun e w' => e = .returned (.int .u32 (stepI c b)) ∧ Drawn0 w w' := by
  obtain ⟨p0, p1⟩ := and15 (Go.bits .xor .u32 c b)
  obtain ⟨q0, q1⟩ := and15 (half (Go.bits .xor .u32 c b))
  have hp := look w HL _ p0 p1
  have hq := look w HL _ q0 q1
  have HL2 := Lib.hid HL
  clear HL
  unfold half at q0 q1 hq
  go_enter Tryd.func82, Tryd.ntmps82
  go_wp2
  go_ret
  exact ⟨rfl, Drawn0.refl _⟩
end Go.Proofs.YtnhjhaphfdlkfaaDoor.Crc
