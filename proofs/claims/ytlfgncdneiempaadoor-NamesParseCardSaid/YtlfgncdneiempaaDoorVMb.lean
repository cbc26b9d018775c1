/- Names in plain words: hex digits, what a text names. -/
import Derived.Lib.SlTrimSet
import Derived.Lib.Bytealg
import Derived.Shelf.Strings.SlTrimAscii
import Derived.Shelf.Small.Wraps
import Derived.Shelf.Strings.Repeat
import Derived.Shelf.Strings.Search1
import Derived.Ground.Names2Prog
import Derived.Test.YtlfgncdneiempaaDoorProg
import Derived.Below
import Derived.Deep.Draws
import Derived.Deep.AppendLies
import Derived.Maps.AppendAt
import Derived.OwnWalk
import Derived.Laws.BytesArg
import Derived.Laws.MakeOwn
import Derived.Laws.OwnMore
import Derived.Deep.OwnRows
import Derived.Tactics
import Derived.Lib.ConvBytes
import Derived.Laws.Slices
import Derived.WalkKit
import Derived.KernelRfl
import Derived.RowKit3
import Derived.Deep.LoopGhost
import Derived.Deep.QuietTactic
import Derived.BigQuiet
import Derived.WideLaws
import Derived.Deep.DeepCutAuto
import Derived.Deep.CutBlock
import Derived.Deep.RegionHeld3
import Derived.Laws.Rows
import Derived.Lib.AppendStr
import Derived.ArgAppend
import Derived.Laws.IdiomCopy
import Derived.OrdersHeld
import Derived.Laws.BitsLemmas
import Derived.RowKit
import Derived.Test.YtlfgncdneiempaaDoorVMa
import Derived.Lib.Hide
import Derived.Laws.IdiomStrings
import Derived.Lib.SmallJoins
set_option linter.unusedVariables false
set_option linter.unusedSimpArgs false
namespace Go.Proofs.Nz
abbrev Tx := List UInt8
def bs (l : Tx) : ByteArray := ⟨l.toArray⟩
theorem bs_list (l : Tx) : (bs l).data.toList = l := by simp [bs]
theorem bs_size (l : Tx) : (bs l).size = l.length := by simp [bs, ByteArray.size]
theorem bs_of (s : ByteArray) : bs s.data.toList = s := by simp [bs]
theorem bs_toList (l : Tx) : (bs l).toList = l := by rw [ByteArray.toList_eq, bs_list]
/-- A hex digit, of small letters. -/
def isHex (c : UInt8) : Bool := (decide (48 ≤ c.toNat) && decide (c.toNat ≤ 57)) || (decide (97 ≤ c.toNat) && decide (c.toNat ≤ 102))
def hexV (c : UInt8) : Nat := if c.toNat ≤ 57 then c.toNat - 48 else c.toNat - 87
def hexN (l : Tx) : Nat := l.foldl (fun n c => 16 * n + hexV c) 0
theorem hexV_lt {c : UInt8} (h : isHex c = true) : hexV c < 16 := by
  unfold isHex at h
  unfold hexV
  simp only [Bool.or_eq_true, Bool.and_eq_true, decide_eq_true_eq] at h
  split <;> omega
theorem hexN_snoc (l : Tx) (c : UInt8) : hexN (l ++ [c]) = 16 * hexN l + hexV c := by simp [hexN]
theorem hexN_lt : ∀ (n : Nat) (l : Tx), l.length = n → l.all isHex = true → hexN l < 16 ^ n := by
  intro n
  induction n with
  | zero => intro l h _; rw [List.length_eq_zero_iff.1 h]; decide
  | succ n ih =>
    intro l hl h
    obtain ⟨r, c, rfl⟩ : ∃ r c, l = r ++ [c] := ⟨l.dropLast, l.getLast (by intro e; rw [e] at hl; cases hl), (List.dropLast_concat_getLast _).symm⟩
    rw [List.length_append] at hl
    rw [List.all_append, Bool.and_eq_true] at h
    have h1 := ih r (by simpa using hl) h.1
    have h2 := hexV_lt (c := c) (by simpa using h.2)
    rw [hexN_snoc, Nat.pow_succ]
    omega
def hexSet : Tx := [48, 49, 50, 51, 52, 53, 54, 55, 56, 57, 97, 98, 99, 100, 101, 102]
theorem hexSet_all : ∀ i : Fin 256, hexSet.contains (UInt8.ofNat i.val) = isHex (UInt8.ofNat i.val) := by decide +kernel
theorem hexSet_is (c : UInt8) : hexSet.contains c = isHex c := by
  have := hexSet_all ⟨c.toNat, UInt8.toNat_lt c⟩
  simpa using this
theorem dropWhile_nil {p : UInt8 → Bool} : ∀ {l : Tx}, l.dropWhile p = [] ↔ l.all p = true
  | [] => by simp
  | x :: r => by
    by_cases h : p x = true
    · simp [List.dropWhile_cons_of_pos h, h, dropWhile_nil (l := r)]
    · simp [List.dropWhile_cons_of_neg h, h]
theorem head_not {p : UInt8 → Bool} : ∀ {l : Tx} {x : UInt8} {r : Tx}, l.dropWhile p = x :: r → p x = false
  | [], _, _, h => by simp at h
  | y :: t, x, r, h => by
    by_cases hy : p y = true
    · rw [List.dropWhile_cons_of_pos hy] at h
      exact head_not h
    · rw [List.dropWhile_cons_of_neg hy] at h
      cases h
      simpa using hy
/-- All digits: nothing is left. -/
theorem trim_hex (l : Tx) : Lib.trimS l hexSet = [] ↔ l.all isHex = true := by
  have hp : (fun x => hexSet.contains x) = isHex := funext hexSet_is
  unfold Lib.trimS Lib.trimLeftS Lib.trimRightS
  rw [hp, dropWhile_nil, List.all_reverse]
  constructor
  · intro h
    have h1 : l.reverse.dropWhile isHex = [] := by
      cases hd : l.reverse.dropWhile isHex with
      | nil => rfl
      | cons x r =>
        rw [hd, List.all_cons, Bool.and_eq_true] at h
        have h2 := head_not hd
        rw [h.1] at h2
        cases h2
    have h3 := dropWhile_nil.1 h1
    rwa [List.all_reverse] at h3
  · intro h
    have h1 : l.reverse.dropWhile isHex = [] := dropWhile_nil.2 (by rw [List.all_reverse]; exact h)
    rw [h1]
    rfl
/-- The text without its '.new', and whether there was one. -/
def suf : Tx := [46, 110, 101, 119]
def man : Tx := [109, 97, 110, 105, 102, 101, 115, 116]
/-- What a text names: its kind, number, whether it is fresh, whether it is a name. -/
structure Nm where
  k : Nat
  n : Nat
  f : Bool
  ok : Bool
def none' : Nm := ⟨0, 0, false, false⟩
def kindOf (l : Tx) : Nat := if l.head? = some 115 then 1 else if l.head? = some 99 then 2 else 0
def nameOf (l : Tx) (f : Bool) : Nm :=
  if l = man then ⟨3, 0, f, true⟩ else if l.length = 17 ∧ l.tail.all isHex = true ∧ kindOf l ≠ 0 then ⟨kindOf l, hexN l.tail, f, true⟩ else none'
def cutNew (l : Tx) : Tx × Bool := if 4 ≤ l.length ∧ l.drop (l.length - 4) = suf then (l.take (l.length - 4), true) else (l, false)
def parse (l : Tx) : Nm := nameOf (cutNew l).1 (cutNew l).2
end Go.Proofs.Nz
/-
  DERIVED: THE SHELF's CONTRACTS AT THIS DUMP, IN PLAIN WORDS (tools/lay-plain.mjs out of 'TrydShelfCut.lean', which tools/lay-shelf.mjs wrote): THE SAME DECLARATIONS UNDER THE SAME NAMES: 'import', 'namespace', 'open', 'def', 'theorem' AND NOTHING ELSE: no command of the shelf's: FOR A HAND-IN. Each laying: the table of numbers ('.._ren') and one theorem, a field a fact of the dump's own or the kernel's comparison; each contract: ONE APPLICATION.
-/
namespace Go.Proofs
open Go.Shelf
def Tryd.lays160_ren : Go.Shelf.Ren := ⟨fun | 160 => 12 | 232 => 19 | 231 => 18 | 227 => 20 | 234 => 22 | 233 => 21 | 236 => 24 | 235 => 23 | 228 => 31 | 271 => 34 | 151 => 33 | 197 => 32 | 120 => 51 | 152 => 50 | 260 => 49 | 137 => 13 | 119 => 64 | 224 => 65 | 225 => 66 | 217 => 25 | 266 => 35 | n => n, fun | 9 => 9 | 4 => 4 | 3 => 3 | 5 => 5 | 117 => 42 | 116 => 41 | 0 => 0 | 124 => 45 | 21 => 21 | 105 => 52 | 46 => 57 | 119 => 88 | 139 => 91 | 138 => 90 | n => n, fun | 3 => 3 | 4 => 4 | n => n⟩
theorem Tryd.lays160 : Go.Proofs.Lays.n160 Tryd.prog Tryd.lays160_ren := {
  mixed := by kernel_rfl
  f119 := Tryd.func64.trans (congrArg some (by kernel_rfl))
  f120 := Tryd.func51.trans (congrArg some (by kernel_rfl))
  f137 := Tryd.func13.trans (congrArg some (by kernel_rfl))
  f151 := Tryd.func33.trans (congrArg some (by kernel_rfl))
  f152 := Tryd.func50.trans (congrArg some (by kernel_rfl))
  f160 := Tryd.func12.trans (congrArg some (by kernel_rfl))
  f197 := Tryd.func32.trans (congrArg some (by kernel_rfl))
  f217 := Tryd.func25.trans (congrArg some (by kernel_rfl))
  f224 := Tryd.func65.trans (congrArg some (by kernel_rfl))
  f225 := Tryd.func66.trans (congrArg some (by kernel_rfl))
  f227 := Tryd.func20.trans (congrArg some (by kernel_rfl))
  f228 := Tryd.func31.trans (congrArg some (by kernel_rfl))
  f231 := Tryd.func18.trans (congrArg some (by kernel_rfl))
  f232 := Tryd.func19.trans (congrArg some (by kernel_rfl))
  f233 := Tryd.func21.trans (congrArg some (by kernel_rfl))
  f234 := Tryd.func22.trans (congrArg some (by kernel_rfl))
  f235 := Tryd.func23.trans (congrArg some (by kernel_rfl))
  f236 := Tryd.func24.trans (congrArg some (by kernel_rfl))
  f260 := Tryd.func49.trans (congrArg some (by kernel_rfl))
  f266 := Tryd.func35.trans (congrArg some (by kernel_rfl))
  f271 := Tryd.func34.trans (congrArg some (by kernel_rfl))
  t0 := Tryd.underlying0
  a0 := Tryd.isAgg0
  z0 := Tryd.sizeOf0
  v0 := Tryd.zeroValue0
  t3 := Tryd.underlying3
  a3 := Tryd.isAgg3
  z3 := Tryd.sizeOf3
  v3 := Tryd.zeroValue3
  t4 := Tryd.underlying4
  a4 := Tryd.isAgg4
  z4 := Tryd.sizeOf4
  v4 := Tryd.zeroValue4
  t5 := Tryd.underlying5
  a5 := Tryd.isAgg5
  z5 := Tryd.sizeOf5
  v5 := Tryd.zeroValue5
  t9 := Tryd.underlying9
  a9 := Tryd.isAgg9
  z9 := Tryd.sizeOf9
  v9 := Tryd.zeroValue9
  t21 := Tryd.underlying21
  a21 := Tryd.isAgg21
  z21 := Tryd.sizeOf21
  v21 := Tryd.zeroValue21
  t46 := Tryd.underlying57
  a46 := Tryd.isAgg57
  z46 := Tryd.sizeOf57
  v46 := Tryd.zeroValue57
  t105 := Tryd.underlying52
  a105 := Tryd.isAgg52
  z105 := Tryd.sizeOf52
  v105 := Tryd.zeroValue52
  t116 := Tryd.underlying41
  a116 := Tryd.isAgg41
  z116 := Tryd.sizeOf41
  t117 := Tryd.underlying42
  a117 := Tryd.isAgg42
  z117 := Tryd.sizeOf42
  v117 := Tryd.zeroValue42
  t119 := Tryd.underlying88
  a119 := Tryd.isAgg88
  z119 := Tryd.sizeOf88
  t124 := Tryd.underlying45
  a124 := Tryd.isAgg45
  z124 := Tryd.sizeOf45
  v124 := Tryd.zeroValue45
  t138 := Tryd.underlying90
  a138 := Tryd.isAgg90
  z138 := Tryd.sizeOf90
  v138 := Tryd.zeroValue90
  t139 := Tryd.underlying91
  a139 := Tryd.isAgg91
  z139 := Tryd.sizeOf91
  v139 := Tryd.zeroValue91
  g3 := by kernel_rfl
  g4 := by kernel_rfl }
def Tryd.lays137_ren : Go.Shelf.Ren := ⟨fun | 137 => 13 | 217 => 25 | 266 => 35 | n => n, fun | 9 => 9 | 5 => 5 | 3 => 3 | n => n, fun | n => n⟩
theorem Tryd.lays137 : Go.Proofs.Lays.n137 Tryd.prog Tryd.lays137_ren := {
  mixed := by kernel_rfl
  f137 := Tryd.func13.trans (congrArg some (by kernel_rfl))
  f217 := Tryd.func25.trans (congrArg some (by kernel_rfl))
  f266 := Tryd.func35.trans (congrArg some (by kernel_rfl))
  t3 := Tryd.underlying3
  a3 := Tryd.isAgg3
  z3 := Tryd.sizeOf3
  v3 := Tryd.zeroValue3
  t5 := Tryd.underlying5
  a5 := Tryd.isAgg5
  z5 := Tryd.sizeOf5
  v5 := Tryd.zeroValue5
  t9 := Tryd.underlying9
  a9 := Tryd.isAgg9
  z9 := Tryd.sizeOf9
  v9 := Tryd.zeroValue9 }
open Go.RowKit in
/-- strings.IndexByte: "IndexByte returns the index of the first instance of c in s, or -1 if c is not present in s.": IT RETURNS 'Lib.indexByte s c'; the world is as it was. (LAID: no walk: one application.) -/
theorem Tryd.strings_IndexByte (s : ByteArray) (c : Int) (w : World) :
    Calls Tryd.prog 13 #[.string s, .int .u8 c] w fun e w' => e = .returned (.int .i64 (Lib.indexByte s.data.toList c.toNat.toUInt8)) ∧ w' = w := Any.strings_IndexByte Tryd.lays137 s c w
def Tryd.lays104_ren : Go.Shelf.Ren := ⟨fun | 104 => 11 | 211 => 17 | 207 => 30 | n => n, fun | 9 => 9 | 4 => 4 | 24 => 29 | 3 => 3 | n => n, fun | n => n⟩
theorem Tryd.lays104 : Go.Proofs.Lays.n104 Tryd.prog Tryd.lays104_ren := {
  mixed := by kernel_rfl
  f104 := Tryd.func11.trans (congrArg some (by kernel_rfl))
  f207 := Tryd.func30.trans (congrArg some (by kernel_rfl))
  f211 := Tryd.func17.trans (congrArg some (by kernel_rfl))
  t3 := Tryd.underlying3
  a3 := Tryd.isAgg3
  z3 := Tryd.sizeOf3
  v3 := Tryd.zeroValue3
  t4 := Tryd.underlying4
  a4 := Tryd.isAgg4
  z4 := Tryd.sizeOf4
  v4 := Tryd.zeroValue4
  t9 := Tryd.underlying9
  a9 := Tryd.isAgg9
  z9 := Tryd.sizeOf9
  v9 := Tryd.zeroValue9
  t24 := Tryd.underlying29
  a24 := Tryd.isAgg29
  z24 := Tryd.sizeOf29
  v24 := Tryd.zeroValue29 }
open Go.RowKit in
/-- strings.CutSuffix: "CutSuffix returns s without the provided ending suffix string and reports whether it found the suffix. If s doesn't end with suffix, CutSuffix returns s, false. If suffix is the empty string, CutSuffix returns s, true.": IT RETURNS '(Lib.trimSuffix s p, Lib.hasSuffix s p)'; the world is as it was. (LAID: no walk: one application.) -/
theorem Tryd.strings_CutSuffix (s p : ByteArray) (w : World) (hs : s.size ≤ 9223372036854775807) :
    Calls Tryd.prog 11 #[.string s, .string p] w fun e w' => e = .returned (.tuple #[.string ⟨(Lib.trimSuffix s.data.toList p.data.toList).toArray⟩, .bool (Lib.hasSuffix s.data.toList p.data.toList)]) ∧ w' = w := Any.strings_CutSuffix Tryd.lays104 s p w hs
def Tryd.lays105_ren : Go.Shelf.Ren := ⟨fun | 105 => 29 | 212 => 43 | 99 => 44 | 165 => 45 | 166 => 46 | 170 => 47 | 169 => 48 | 263 => 59 | 264 => 60 | 206 => 61 | 240 => 62 | 241 => 63 | 276 => 73 | 277 => 74 | n => n, fun | 9 => 9 | 3 => 3 | 4 => 4 | 20 => 20 | 0 => 0 | 46 => 57 | 109 => 61 | 5 => 5 | 72 => 65 | 76 => 67 | 51 => 82 | 146 => 83 | 53 => 23 | 148 => 85 | 70 => 63 | 37 => 48 | 75 => 34 | 127 => 87 | 164 => 103 | 80 => 70 | n => n, fun | n => n⟩
theorem Tryd.lays105 : Go.Proofs.Lays.n105 Tryd.prog Tryd.lays105_ren := {
  mixed := by kernel_rfl
  f99 := Tryd.func44.trans (congrArg some (by kernel_rfl))
  f105 := Tryd.func29.trans (congrArg some (by kernel_rfl))
  f165 := Tryd.func45.trans (congrArg some (by kernel_rfl))
  f166 := Tryd.func46.trans (congrArg some (by kernel_rfl))
  f169 := Tryd.func48.trans (congrArg some (by kernel_rfl))
  f170 := Tryd.func47.trans (congrArg some (by kernel_rfl))
  f206 := Tryd.func61.trans (congrArg some (by kernel_rfl))
  f212 := Tryd.func43.trans (congrArg some (by kernel_rfl))
  f240 := Tryd.func62.trans (congrArg some (by kernel_rfl))
  f241 := Tryd.func63.trans (congrArg some (by kernel_rfl))
  f263 := Tryd.func59.trans (congrArg some (by kernel_rfl))
  f264 := Tryd.func60.trans (congrArg some (by kernel_rfl))
  f276 := Tryd.func73.trans (congrArg some (by kernel_rfl))
  f277 := Tryd.func74.trans (congrArg some (by kernel_rfl))
  t0 := Tryd.underlying0
  a0 := Tryd.isAgg0
  z0 := Tryd.sizeOf0
  v0 := Tryd.zeroValue0
  t3 := Tryd.underlying3
  a3 := Tryd.isAgg3
  z3 := Tryd.sizeOf3
  v3 := Tryd.zeroValue3
  t4 := Tryd.underlying4
  a4 := Tryd.isAgg4
  z4 := Tryd.sizeOf4
  v4 := Tryd.zeroValue4
  t5 := Tryd.underlying5
  a5 := Tryd.isAgg5
  z5 := Tryd.sizeOf5
  v5 := Tryd.zeroValue5
  t9 := Tryd.underlying9
  a9 := Tryd.isAgg9
  z9 := Tryd.sizeOf9
  v9 := Tryd.zeroValue9
  t20 := Tryd.underlying20
  a20 := Tryd.isAgg20
  z20 := Tryd.sizeOf20
  v20 := Tryd.zeroValue20
  t37 := Tryd.underlying48
  a37 := Tryd.isAgg48
  z37 := Tryd.sizeOf48
  v37 := Tryd.zeroValue48
  t46 := Tryd.underlying57
  a46 := Tryd.isAgg57
  z46 := Tryd.sizeOf57
  v46 := Tryd.zeroValue57
  t51 := Tryd.underlying82
  a51 := Tryd.isAgg82
  z51 := Tryd.sizeOf82
  v51 := Tryd.zeroValue82
  t53 := Tryd.underlying23
  a53 := Tryd.isAgg23
  z53 := Tryd.sizeOf23
  v53 := Tryd.zeroValue23
  t70 := Tryd.underlying63
  a70 := Tryd.isAgg63
  z70 := Tryd.sizeOf63
  v70 := Tryd.zeroValue63
  t72 := Tryd.underlying65
  a72 := Tryd.isAgg65
  z72 := Tryd.sizeOf65
  v72 := Tryd.zeroValue65
  t75 := Tryd.underlying34
  a75 := Tryd.isAgg34
  z75 := Tryd.sizeOf34
  v75 := Tryd.zeroValue34
  t76 := Tryd.underlying67
  a76 := Tryd.isAgg67
  z76 := Tryd.sizeOf67
  v76 := Tryd.zeroValue67
  t109 := Tryd.underlying61
  a109 := Tryd.isAgg61
  z109 := Tryd.sizeOf61
  v109 := Tryd.zeroValue61
  t127 := Tryd.underlying87
  a127 := Tryd.isAgg87
  z127 := Tryd.sizeOf87
  v127 := Tryd.zeroValue87
  t146 := Tryd.underlying83
  a146 := Tryd.isAgg83
  z146 := Tryd.sizeOf83
  v146 := Tryd.zeroValue83
  t148 := Tryd.underlying85
  a148 := Tryd.isAgg85
  z148 := Tryd.sizeOf85
  v148 := Tryd.zeroValue85
  t164 := Tryd.underlying103
  a164 := Tryd.isAgg103
  z164 := Tryd.sizeOf103
  v164 := Tryd.zeroValue103 }
theorem Tryd.Builder_Extra_105 : Builder.Extra Tryd.prog Tryd.lays105_ren := {
  sizeBuilder := by kernel_rfl
  liesBuilder := by kernel_rfl
  t5 := Tryd.underlying5
  a5 := Tryd.isAgg5
  z5 := Tryd.sizeOf5
  v5 := Tryd.zeroValue5
  infoByte := by kernel_rfl
  cellsByte := by kernel_rfl
  sizeByte := by kernel_rfl
  neB5 := by decide }
open Go.RowKit Go.Lib in
/-- **strings.Repeat: count ≥ 0, the result within one allocation: count copies of s.** (LAID: no walk: one application.) -/
theorem Tryd.strings_Repeat (s : ByteArray) (c : Nat) (w : World) (hc : c ≤ 9223372036854775807) (hlen : s.size * c ≤ 140737488355328) :
    Calls Tryd.prog 29 #[.string s, .int .i64 c] w fun e w' => e = .returned (.string ⟨(Lib.repeatL s.data.toList c).toArray⟩) ∧ Below w.heap.size w w' := Any.strings_Repeat Tryd.lays105 Tryd.Builder_Extra_105 s c w hc hlen
end Go.Proofs
-- what follows is out of the kit's print
namespace Go.Proofs.YtlfgncdneiempaaDoor.PNamesParse
open Go.RowKit Go.Proofs.YtlfgncdneiempaaDoorW.PrintWords Go.Proofs.YtlfgncdneiempaaDoorW.PrintLast Go.Proofs.YtlfgncdneiempaaDoorW.PrintMore
attribute [local go_sem] max2_int min2_int max_two min_two max_three min_three max_four min_four   -- for this text's walks alone
set_option linter.unusedVariables false
set_option linter.unusedSimpArgs false
-- the values' own types
end Go.Proofs.YtlfgncdneiempaaDoor.PNamesParse
-- what follows is out of the kit's print
namespace Go.Proofs.YtlfgncdneiempaaDoor.PNamesParse
open Go.RowKit Go.Proofs.YtlfgncdneiempaaDoorW.PrintWords Go.Proofs.YtlfgncdneiempaaDoorW.PrintLast Go.Proofs.YtlfgncdneiempaaDoorW.PrintMore
attribute [local go_sem] max2_int min2_int max_two min_two max_three min_three max_four min_four   -- for this text's walks alone
set_option linter.unusedVariables false
set_option linter.unusedSimpArgs false
end Go.Proofs.YtlfgncdneiempaaDoor.PNamesParse
-- what follows is out of the kit's print
namespace Go.Proofs.YtlfgncdneiempaaDoor.PNamesParse
open Go.RowKit Go.Proofs.YtlfgncdneiempaaDoorW.PrintWords Go.Proofs.YtlfgncdneiempaaDoorW.PrintLast Go.Proofs.YtlfgncdneiempaaDoorW.PrintMore
attribute [local go_sem] max2_int min2_int max_two min_two max_three min_three max_four min_four   -- for this text's walks alone
set_option linter.unusedVariables false
set_option linter.unusedSimpArgs false
-- NOT PRINTED: function 26 (strconv_ParseUint_26)
-- NOT PRINTED: function 52 (stringslite_Clone)
-- NOT PRINTED: function 38 (strconv_syntaxError)
-- NOT PRINTED: function 39 (strconv_rangeError)
-- NOT PRINTED: function 53 (errors_New)
-- NOT PRINTED: function 75 (strconv_FormatInt)
-- NOT PRINTED: function 67 (strconv_Itoa_67)
-- NOT PRINTED: function 54 (strconv_Itoa_54)
-- NOT PRINTED: function 40 (strconv_baseError)
-- NOT PRINTED: function 41 (strconv_bitSizeError)
-- NOT PRINTED: function 27 (strconv_toError)
-- NOT PRINTED: function 14 (strconv_ParseUint_14)
-- NOT PRINTED: function 5 (names_Parse)
-- NOT PRINTED: function 9 (hindcastlaw14_is)
-- NOT PRINTED: function 10 (hindcastlaw14_no)
-- NOT PRINTED: function 4 (hindcastlaw14_works)
/-! ### hindcastref14_digit: function 15 -/
def hindcastref14_digit.j0 : Nat → Int → Bool → Option (Int)
  | 0, _, _ => none
  | k + 1, x0, x8 => if x8 = true then (some ((x0 - 48) % 256)) else (if x0 ≥ 97 then (if x0 ≤ 102 then (some (((x0 - 97) % 256) + 10)) else (some (-1))) else (some (-1)))
def hindcastref14_digit.f (k : Nat) (a0 : Int) : Option (Int) := if a0 ≥ 48 then (hindcastref14_digit.j0 k a0 (decide (a0 ≤ 57))) else (hindcastref14_digit.j0 k a0 false)
set_option maxHeartbeats 8000000 in
set_option maxRecDepth 100000 in
theorem hindcastref14_digit.calls (k : Nat) (a0 : Int) (r : Int) (w : World) (h : hindcastref14_digit.f k a0 = some r) :
    Calls Tryd.prog 15 #[.int .u8 a0] w fun e w' => e = .returned (.int .i64 r) ∧ Drawn0 w w' := by
  have H : (if a0 ≥ 48 then (hindcastref14_digit.j0 k a0 (decide (a0 ≤ 57))) else (hindcastref14_digit.j0 k a0 false)) = some r := h
  clear h
  have HC2 := Aside0.mk H
  clear H
  go_enter Tryd.func15, Tryd.ntmps15
  go_upto_region 1 with (fail)
  go_cut [8] (fun v8 wc => ∃ (kq : Nat) (x8_1 : Bool), v8 = .bool x8_1 ∧ Aside0 (hindcastref14_digit.j0 kq a0 x8_1 = some r) ∧ Aside0 (kq ≤ k) ∧ Drawn0 w wc)
  case first =>
    have H := HC2.out
    clear HC2
    by_cases c3 : a0 ≥ 48
    · rw [if_pos c3] at H
      have c3b0 : decide (48 ≤ a0) = true := decide_eq_true c3
      clear c3
      (first | rw [c3b0] | (simp only [i64_w, i32_w]; rw [c3b0]) | skip)
      have H' := Aside0.mk H
      clear H
      go_wp2
      go_meet
      case rel => exact ⟨_, (decide (a0 ≤ 57)), (by first | rfl | (simp; done) | (simp [*]; done)), H', ⟨by first | omega | exact Nat.le_refl _⟩, by repeat (first | exact Drawn0.refl _ | apply Drawn0.step)⟩
    · rw [if_neg c3] at H
      have c3b0 : decide (48 ≤ a0) = false := decide_eq_false c3
      clear c3
      (first | rw [c3b0] | (simp only [i64_w, i32_w]; rw [c3b0]) | skip)
      have H' := Aside0.mk H
      clear H
      go_wp2
      go_meet
      case rel => exact ⟨_, (false), (by first | rfl | (simp; done) | (simp [*]; done)), H', ⟨by first | omega | exact Nat.le_refl _⟩, by repeat (first | exact Drawn0.refl _ | apply Drawn0.step)⟩
  case rest =>
    clear HC2
    try clear c1
    try clear p2
    try clear c3
    try clear c3b0
    obtain ⟨kq, x8_1, rfl, HA, HJ1, ⟨mc1, rfl⟩⟩ := hcut
    cases kq with
    | zero => exact absurd HA.out (by simp [hindcastref14_digit.j0])
    | succ kj1 =>
      have H := HA.out
      clear HA
      simp only [hindcastref14_digit.j0] at H
      by_cases c4 : x8_1 = true
      · subst c4
        have H1 : (some ((a0 - 48) % 256)) = some r := by rw [if_pos rfl] at H; exact H
        clear H
        have H := H1
        clear H1
        obtain rfl := Option.some.inj H
        go_wp2
        go_ret
        exact ⟨by first | rfl | (simp; done) | (simp [*]; done), by repeat (first | exact Drawn0.refl _ | apply Drawn0.step)⟩
      · replace c4 := Bool.eq_false_iff.mpr c4
        subst c4
        have H1 : (if a0 ≥ 97 then (if a0 ≤ 102 then (some (((a0 - 97) % 256) + 10)) else (some (-1))) else (some (-1))) = some r := by rw [if_neg (show ¬ (false = true) by decide)] at H; exact H
        clear H
        have H := H1
        clear H1
        by_cases c5 : a0 ≥ 97
        · rw [if_pos c5] at H
          have c5b0 : decide (97 ≤ a0) = true := decide_eq_true c5
          clear c5
          by_cases c6 : a0 ≤ 102
          · rw [if_pos c6] at H
            have c6b0 : decide (a0 ≤ 102) = true := decide_eq_true c6
            clear c6
            obtain rfl := Option.some.inj H
            go_wp2
            go_ret
            exact ⟨by first | rfl | (simp; done) | (simp [*]; done), by repeat (first | exact Drawn0.refl _ | apply Drawn0.step)⟩
          · rw [if_neg c6] at H
            have c6b0 : decide (a0 ≤ 102) = false := decide_eq_false c6
            clear c6
            obtain rfl := Option.some.inj H
            go_wp2
            go_ret
            exact ⟨by first | rfl | (simp; done) | (simp [*]; done), by repeat (first | exact Drawn0.refl _ | apply Drawn0.step)⟩
        · rw [if_neg c5] at H
          have c5b0 : decide (97 ≤ a0) = false := decide_eq_false c5
          clear c5
          obtain rfl := Option.some.inj H
          go_wp2
          go_ret
          exact ⟨by first | rfl | (simp; done) | (simp [*]; done), by repeat (first | exact Drawn0.refl _ | apply Drawn0.step)⟩
/-! ### hindcastref14_Parse: function 6 -/
mutual
def hindcastref14_Parse.j0 : Nat → ByteArray → Bool → Option (Int × Int × Bool × Bool)
  | 0, _, _ => none
  | k + 1, x0, x6 => if x6 = true then (if 0 ≤ (wrap64 ((x0.size : Int) - 4)) then (if (wrap64 ((x0.size : Int) - 4)) ≤ (x0.size : Int) then (hindcastref14_Parse.j1 k (x0.extract 0 ((wrap64 ((x0.size : Int) - 4)) : Int).toNat) x6) else (none)) else (none)) else (hindcastref14_Parse.j1 k x0 x6)
def hindcastref14_Parse.j1 : Nat → ByteArray → Bool → Option (Int × Int × Bool × Bool)
  | 0, _, _ => none
  | k + 1, x0, x6 => if x0.toList = ([109, 97, 110, 105, 102, 101, 115, 116] : List UInt8) then (some (3, 0, x6, true)) else (if (x0.size : Int) = 17 then (if 0 < (x0.size : Int) then (if (bt x0 0) = 115 then (hindcastref14_Parse.j2 k x0 x6 false) else (hindcastref14_Parse.j2 k x0 x6 ((bt x0 0) != 99))) else (none)) else (hindcastref14_Parse.j2 k x0 x6 true))
def hindcastref14_Parse.j2 : Nat → ByteArray → Bool → Bool → Option (Int × Int × Bool × Bool)
  | 0, _, _, _ => none
  | k + 1, x0, x6, x41 => if x41 = true then (some (0, 0, false, false)) else (hindcastref14_Parse.l0 k x0 x6 0 1)
def hindcastref14_Parse.l0 : Nat → ByteArray → Bool → Int → Int → Option (Int × Int × Bool × Bool)
  | 0, _, _, _, _ => none
  | k + 1, x0, x6, x7, x8 => if x8 < 17 then (if 0 ≤ x8 then (if x8 < (x0.size : Int) then ((hindcastref14_digit.f k (bt x0 x8)).bind fun t147 => (if t147 < 0 then (some (0, 0, false, false)) else ((hindcastref14_digit.f k (bt x0 x8)).bind fun t148 => (hindcastref14_Parse.l0 k x0 x6 (IntKind.u64.wrap ((IntKind.u64.wrap (16 * x7)) + (IntKind.u64.wrap (t148)))) (wrap64 (x8 + 1)))))) else (none)) else (none)) else (if 0 < (x0.size : Int) then (if (bt x0 0) = 115 then (some (1, x7, x6, true)) else (some (2, x7, x6, true))) else (none))
end
def hindcastref14_Parse.f (k : Nat) (a0 : ByteArray) : Option (Int × Int × Bool × Bool) := if (a0.size : Int) ≥ 4 then (if 0 ≤ (wrap64 ((a0.size : Int) - 4)) then (if (wrap64 ((a0.size : Int) - 4)) ≤ (a0.size : Int) then (hindcastref14_Parse.j0 k a0 ((a0.extract ((wrap64 ((a0.size : Int) - 4)) : Int).toNat a0.size).toList == ([46, 110, 101, 119] : List UInt8))) else (none)) else (none)) else (hindcastref14_Parse.j0 k a0 false)
set_option maxHeartbeats 8000000 in
set_option maxRecDepth 100000 in
theorem hindcastref14_Parse.calls (k : Nat) (a0 : ByteArray) (r1 : Int) (r2 : Int) (r3 : Bool) (r4 : Bool) (w : World) (h : hindcastref14_Parse.f k a0 = some (r1, r2, r3, r4)) :
    Calls Tryd.prog 6 #[.string a0] w fun e w' => e = .returned (.tuple #[.int .i64 r1, .int .u64 r2, .bool r3, .bool r4]) ∧ Drawn0 w w' := by
  have H : (if (a0.size : Int) ≥ 4 then (if 0 ≤ (wrap64 ((a0.size : Int) - 4)) then (if (wrap64 ((a0.size : Int) - 4)) ≤ (a0.size : Int) then (hindcastref14_Parse.j0 k a0 ((a0.extract ((wrap64 ((a0.size : Int) - 4)) : Int).toNat a0.size).toList == ([46, 110, 101, 119] : List UInt8))) else (none)) else (none)) else (hindcastref14_Parse.j0 k a0 false)) = some (r1, r2, r3, r4) := h
  clear h
  have HC2 := Aside0.mk H
  clear H
  go_enter Tryd.func6, Tryd.ntmps6
  go_upto_region 1 with (fail)
  go_cut [6] (fun v6 wc => ∃ (kq : Nat) (x6_1 : Bool), v6 = .bool x6_1 ∧ Aside0 (hindcastref14_Parse.j0 kq a0 x6_1 = some (r1, r2, r3, r4)) ∧ Aside0 (kq ≤ k) ∧ Drawn0 w wc)
  case first =>
    have H := HC2.out
    clear HC2
    by_cases c3 : (a0.size : Int) ≥ 4
    · rw [if_pos c3] at H
      have c3b0 : decide (4 ≤ (a0.size : Int)) = true := decide_eq_true c3
      have c3b1 : decide (4 ≤ a0.size) = true := decide_eq_true (by omega)
      clear c3
      (first | rw [c3b0] | (simp only [i64_w, i32_w]; rw [c3b0]) | skip)
      obtain ⟨ji4, hji4⟩ : ∃ j_ : Int, (wrap64 ((a0.size : Int) - 4)) = j_ := ⟨_, rfl⟩
      replace H : (if 0 ≤ (ji4) then (if (ji4) ≤ (a0.size : Int) then (hindcastref14_Parse.j0 k a0 ((a0.extract ((ji4) : Int).toNat a0.size).toList == ([46, 110, 101, 119] : List UInt8))) else (none)) else (none)) = some (r1, r2, r3, r4) := by first | (rw [hji4] at H; exact H) | (simp only [hji4] at H ⊢; exact H)
      have hji4w : (IntKind.i64.wrap ((a0.size : Int) - 4)) = ji4 := (i64_w _).trans hji4
      by_cases c5 : 0 ≤ (ji4)
      · rw [if_pos c5] at H
        have c5b0 := eq_true c5
        have c5b1 : decide (0 ≤ (ji4)) = true := decide_eq_true c5
        clear c5
        by_cases c6 : (ji4) ≤ (a0.size : Int)
        · rw [if_pos c6] at H
          have c6b0 := eq_true c6
          have c6b1 : decide ((ji4) ≤ (a0.size : Int)) = true := decide_eq_true c6
          clear c6
          have H' := Aside0.mk H
          clear H
          go_wp2
          go_meet
          case rel => exact ⟨_, (((a0.extract ((ji4) : Int).toNat a0.size).toList == ([46, 110, 101, 119] : List UInt8))), (by first | rfl | (simp; done) | (simp only [← hji4] <;> (first | rfl | simp)) | (simp [*]; done)), H', ⟨by first | omega | exact Nat.le_refl _⟩, by repeat (first | exact Drawn0.refl _ | apply Drawn0.step)⟩
        · rw [if_neg c6] at H
          exact absurd H (by simp)
      · rw [if_neg c5] at H
        exact absurd H (by simp)
    · rw [if_neg c3] at H
      have c3b0 : decide (4 ≤ (a0.size : Int)) = false := decide_eq_false c3
      have c3b1 : decide (4 ≤ a0.size) = false := decide_eq_false (by omega)
      clear c3
      (first | rw [c3b0] | (simp only [i64_w, i32_w]; rw [c3b0]) | skip)
      have H' := Aside0.mk H
      clear H
      go_wp2
      go_meet
      case rel => exact ⟨_, (false), (by first | rfl | (simp; done) | (simp [*]; done)), H', ⟨by first | omega | exact Nat.le_refl _⟩, by repeat (first | exact Drawn0.refl _ | apply Drawn0.step)⟩
  case rest =>
    clear HC2
    try clear p2
    try clear c3
    try clear c3b0
    try clear c3b1
    try clear c5
    try clear c5b0
    try clear c5b1
    try clear c6
    try clear c6b0
    try clear c6b1
    try clear p6
    obtain ⟨kq, x6_1, rfl, HA, HJ1, ⟨mc1, rfl⟩⟩ := hcut
    cases kq with
    | zero => exact absurd HA.out (by simp [hindcastref14_Parse.j0])
    | succ kj1 =>
      have H := HA.out
      clear HA
      simp only [hindcastref14_Parse.j0] at H
      have HC7 := Aside0.mk H
      clear H
      go_upto_if 20 with (fail)
      go_cut [0] (fun v0 wc => ∃ (kq : Nat) (x0_6 : ByteArray), v0 = .string x0_6 ∧ Aside0 (hindcastref14_Parse.j1 kq x0_6 x6_1 = some (r1, r2, r3, r4)) ∧ Aside0 (kq ≤ kj1) ∧ Drawn0 w wc)
      case first =>
        have H := HC7.out
        clear HC7
        by_cases c8 : x6_1 = true
        · subst c8
          have H1 : (if 0 ≤ (wrap64 ((a0.size : Int) - 4)) then (if (wrap64 ((a0.size : Int) - 4)) ≤ (a0.size : Int) then (hindcastref14_Parse.j1 kj1 (a0.extract 0 ((wrap64 ((a0.size : Int) - 4)) : Int).toNat) true) else (none)) else (none)) = some (r1, r2, r3, r4) := by rw [if_pos rfl] at H; exact H
          clear H
          have H := H1
          clear H1
          obtain ⟨ji9, hji9⟩ : ∃ j_ : Int, (wrap64 ((a0.size : Int) - 4)) = j_ := ⟨_, rfl⟩
          replace H : (if 0 ≤ (ji9) then (if (ji9) ≤ (a0.size : Int) then (hindcastref14_Parse.j1 kj1 (a0.extract 0 ((ji9) : Int).toNat) true) else (none)) else (none)) = some (r1, r2, r3, r4) := by first | (rw [hji9] at H; exact H) | (simp only [hji9] at H ⊢; exact H)
          have hji9w : (IntKind.i64.wrap ((a0.size : Int) - 4)) = ji9 := (i64_w _).trans hji9
          by_cases c10 : 0 ≤ (ji9)
          · rw [if_pos c10] at H
            have c10b0 := eq_true c10
            have c10b1 : decide (0 ≤ (ji9)) = true := decide_eq_true c10
            clear c10
            by_cases c11 : (ji9) ≤ (a0.size : Int)
            · rw [if_pos c11] at H
              have c11b0 := eq_true c11
              have c11b1 : decide ((ji9) ≤ (a0.size : Int)) = true := decide_eq_true c11
              clear c11
              have H' := Aside0.mk H
              clear H
              go_wp2
              go_meet
              case rel => exact ⟨_, (a0.extract 0 ((ji9) : Int).toNat), (by first | rfl | (simp; done) | (simp only [← hji9] <;> (first | rfl | simp)) | (simp [*]; done)), H', ⟨by have := HJ1.out; first | omega | exact Nat.le_refl _⟩, by repeat (first | exact Drawn0.refl _ | apply Drawn0.step)⟩
            · rw [if_neg c11] at H
              exact absurd H (by simp)
          · rw [if_neg c10] at H
            exact absurd H (by simp)
        · replace c8 := Bool.eq_false_iff.mpr c8
          subst c8
          have H1 : (hindcastref14_Parse.j1 kj1 a0 false) = some (r1, r2, r3, r4) := by rw [if_neg (show ¬ (false = true) by decide)] at H; exact H
          clear H
          have H := H1
          clear H1
          have H' := Aside0.mk H
          clear H
          go_wp2
          go_meet
          case rel => exact ⟨_, (a0), (by first | rfl | (simp; done) | (simp [*]; done)), H', ⟨by have := HJ1.out; first | omega | exact Nat.le_refl _⟩, by repeat (first | exact Drawn0.refl _ | apply Drawn0.step)⟩
      case rest =>
        clear HC7
        try clear c1
        try clear p2
        try clear c3
        try clear c3b0
        try clear c3b1
        try clear c5
        try clear c5b0
        try clear c5b1
        try clear c6
        try clear c6b0
        try clear c6b1
        try clear p6
        try clear c8
        try clear c10
        try clear c10b0
        try clear c10b1
        try clear c11
        try clear c11b0
        try clear c11b1
        try clear p2
        try clear p6
        obtain ⟨kq, x0_6, rfl, HA, HJ6, ⟨mc6, rfl⟩⟩ := hcut
        cases kq with
        | zero => exact absurd HA.out (by simp [hindcastref14_Parse.j1])
        | succ kj6 =>
          have H := HA.out
          clear HA
          simp only [hindcastref14_Parse.j1] at H
          by_cases c12 : x0_6.toList = ([109, 97, 110, 105, 102, 101, 115, 116] : List UInt8)
          · rw [if_pos c12] at H
            have c12b0 : (x0_6.toList == ([109, 97, 110, 105, 102, 101, 115, 116] : List UInt8)) = true := beq_iff_eq.mpr c12
            have c12b1 : (x0_6.toList != ([109, 97, 110, 105, 102, 101, 115, 116] : List UInt8)) = false := bne_eq_false_iff_eq.mpr c12
            clear c12
            simp only [Option.some.injEq, Prod.mk.injEq] at H
            obtain ⟨rfl, rfl, rfl, rfl⟩ := H
            go_wp2
            refine bodyPost_ret (results_list (rs := [.tmp 2, .tmp 3, .tmp 4, .tmp 5]) rfl (by simp) (.tmp (.tmp (.tmp (.tmp .nil))))) rfl ?_
            exact ⟨by first | rfl | (simp; done) | (simp [*]; done), by repeat (first | exact Drawn0.refl _ | apply Drawn0.step)⟩
          · rw [if_neg c12] at H
            have c12b0 : (x0_6.toList == ([109, 97, 110, 105, 102, 101, 115, 116] : List UInt8)) = false := beq_eq_false_iff_ne.mpr c12
            have c12b1 : (x0_6.toList != ([109, 97, 110, 105, 102, 101, 115, 116] : List UInt8)) = true := bne_iff_ne.mpr c12
            have HC13 := Aside0.mk H
            clear H
            go_upto_region 6 with (fail)
            go_cut [41] (fun v41 wc => ∃ (kq : Nat) (x41_12 : Bool), v41 = .bool x41_12 ∧ Aside0 (hindcastref14_Parse.j2 kq x0_6 x6_1 x41_12 = some (r1, r2, r3, r4)) ∧ Aside0 (kq ≤ kj6) ∧ Drawn0 w wc)
            case first =>
              have H := HC13.out
              clear HC13
              by_cases c14 : (x0_6.size : Int) = 17
              · rw [if_pos c14] at H
                have c14b0 : ((x0_6.size : Int) == 17) = true := beq_iff_eq.mpr c14
                have c14b1 : ((x0_6.size : Int) != 17) = false := bne_eq_false_iff_eq.mpr c14
                clear c14
                (first | rw [c14b0] | (simp only [i64_w, i32_w]; rw [c14b0]) | skip)
                by_cases c15 : 0 < (x0_6.size : Int)
                · rw [if_pos c15] at H
                  have c15b0 : decide (0 < (x0_6.size : Int)) = true := decide_eq_true c15
                  have c15b1 : decide (0 < x0_6.size) = true := decide_eq_true (by omega)
                  clear c15
                  by_cases c17 : (bt x0_6 0) = 115
                  · rw [if_pos c17] at H
                    have c17b0 : ((bt x0_6 0) == 115) = true := beq_iff_eq.mpr c17
                    have c17b1 : ((bt x0_6 0) != 115) = false := bne_eq_false_iff_eq.mpr c17
                    clear c17
                    have H' := Aside0.mk H
                    clear H
                    have p16 : 0 ≤ (0 : Int) := (by omega)
                    have q16 : 0 < x0_6.size := (by have : (0 : Int) < (x0_6.size : Int) := of_decide_eq_true (by first | (with_reducible assumption) | assumption); omega)
                    have hx16 : ∀ h : 0 < x0_6.size, ((x0_6[0]'h).toNat : Int) = bt x0_6 0 := bt_at x0_6 0
                    clear p16
                    have qi16 : (0 < (x0_6.size : Int)) = True := eq_true (of_decide_eq_true (by first | (with_reducible assumption) | assumption))
                    replace q16 := eq_true q16
                    go_wp2
                    go_meet
                    case rel => exact ⟨_, (false), (by first | rfl | (simp; done) | (simp [*]; done)), H', ⟨by have := HJ1.out; have := HJ6.out; first | omega | exact Nat.le_refl _⟩, by repeat (first | exact Drawn0.refl _ | apply Drawn0.step)⟩
                  · rw [if_neg c17] at H
                    have c17b0 : ((bt x0_6 0) == 115) = false := beq_eq_false_iff_ne.mpr c17
                    have c17b1 : ((bt x0_6 0) != 115) = true := bne_iff_ne.mpr c17
                    have H' := Aside0.mk H
                    clear H
                    have p16 : 0 ≤ (0 : Int) := (by omega)
                    have q16 : 0 < x0_6.size := (by have : (0 : Int) < (x0_6.size : Int) := of_decide_eq_true (by first | (with_reducible assumption) | assumption); omega)
                    have hx16 : ∀ h : 0 < x0_6.size, ((x0_6[0]'h).toNat : Int) = bt x0_6 0 := bt_at x0_6 0
                    clear p16
                    have qi16 : (0 < (x0_6.size : Int)) = True := eq_true (of_decide_eq_true (by first | (with_reducible assumption) | assumption))
                    replace q16 := eq_true q16
                    have p18 : 0 ≤ (0 : Int) := (by omega)
                    have q18 : 0 < x0_6.size := (by have : (0 : Int) < (x0_6.size : Int) := of_decide_eq_true (by first | (with_reducible assumption) | assumption); omega)
                    have hx18 : ∀ h : 0 < x0_6.size, ((x0_6[0]'h).toNat : Int) = bt x0_6 0 := bt_at x0_6 0
                    clear p18
                    have qi18 : (0 < (x0_6.size : Int)) = True := eq_true (of_decide_eq_true (by first | (with_reducible assumption) | assumption))
                    replace q18 := eq_true q18
                    go_wp2
                    go_meet
                    case rel => exact ⟨_, (((bt x0_6 0) != 99)), (by first | rfl | (simp; done) | (simp [*]; done)), H', ⟨by have := HJ1.out; have := HJ6.out; first | omega | exact Nat.le_refl _⟩, by repeat (first | exact Drawn0.refl _ | apply Drawn0.step)⟩
                · rw [if_neg c15] at H
                  exact absurd H (by simp)
              · rw [if_neg c14] at H
                have c14b0 : ((x0_6.size : Int) == 17) = false := beq_eq_false_iff_ne.mpr c14
                have c14b1 : ((x0_6.size : Int) != 17) = true := bne_iff_ne.mpr c14
                (first | rw [c14b0] | (simp only [i64_w, i32_w]; rw [c14b0]) | skip)
                have H' := Aside0.mk H
                clear H
                go_wp2
                go_meet
                case rel => exact ⟨_, (true), (by first | rfl | (simp; done) | (simp [*]; done)), H', ⟨by have := HJ1.out; have := HJ6.out; first | omega | exact Nat.le_refl _⟩, by repeat (first | exact Drawn0.refl _ | apply Drawn0.step)⟩
            case rest =>
              clear HC13
              try clear c1
              try clear p1
              try clear q1
              try clear hx1
              try clear qi1
              try clear p2
              try clear c3
              try clear c3b0
              try clear c3b1
              try clear c5
              try clear c5b0
              try clear c5b1
              try clear c6
              try clear c6b0
              try clear c6b1
              try clear p6
              try clear c8
              try clear c10
              try clear c10b0
              try clear c10b1
              try clear c11
              try clear c11b0
              try clear c11b1
              try clear c12
              try clear c12b0
              try clear c12b1
              try clear c14
              try clear c14b0
              try clear c14b1
              try clear c15
              try clear c15b0
              try clear c15b1
              try clear p16
              try clear q16
              try clear hx16
              try clear qi16
              try clear c17
              try clear c17b0
              try clear c17b1
              try clear p18
              try clear q18
              try clear hx18
              try clear qi18
              try clear p16
              try clear p18
              try clear p2
              try clear p6
              try clear q16
              try clear q18
              obtain ⟨kq, x41_12, rfl, HA, HJ12, ⟨mc12, rfl⟩⟩ := hcut
              cases kq with
              | zero => exact absurd HA.out (by simp [hindcastref14_Parse.j2])
              | succ kj12 =>
                have H := HA.out
                clear HA
                simp only [hindcastref14_Parse.j2] at H
                by_cases c19 : x41_12 = true
                · subst c19
                  have H1 : (some (0, 0, false, false)) = some (r1, r2, r3, r4) := by rw [if_pos rfl] at H; exact H
                  clear H
                  have H := H1
                  clear H1
                  simp only [Option.some.injEq, Prod.mk.injEq] at H
                  obtain ⟨rfl, rfl, rfl, rfl⟩ := H
                  go_wp2
                  refine bodyPost_ret (results_list (rs := [.tmp 2, .tmp 3, .tmp 4, .tmp 5]) rfl (by simp) (.tmp (.tmp (.tmp (.tmp .nil))))) rfl ?_
                  exact ⟨by first | rfl | (simp; done) | (simp [*]; done), by repeat (first | exact Drawn0.refl _ | apply Drawn0.step)⟩
                · replace c19 := Bool.eq_false_iff.mpr c19
                  subst c19
                  have H1 : (hindcastref14_Parse.l0 kj12 x0_6 x6_1 0 1) = some (r1, r2, r3, r4) := by rw [if_neg (show ¬ (false = true) by decide)] at H; exact H
                  clear H
                  have H := H1
                  clear H1
                  have H' := Aside0.mk H
                  clear H
                  go_wp2
                  go_loopg [7, 8] kj12 (fun kq v7 v8 w' => ∃ (x7_4 : Int) (x8_4 : Int), v7 = .int .u64 x7_4 ∧ v8 = .int .i64 x8_4 ∧ Aside0 (hindcastref14_Parse.l0 kq x0_6 x6_1 x7_4 x8_4 = some (r1, r2, r3, r4)) ∧ Aside0 (kq ≤ kj12) ∧ Drawn0 w w')
                  case atStart => exact ⟨(0), (1), (by first | rfl | (simp; done) | (simp [*]; done)), (by first | rfl | (simp; done) | (simp [*]; done)), H', ⟨Nat.le_refl _⟩, by repeat (first | exact Drawn0.refl _ | apply Drawn0.step)⟩
                  case round =>
                    clear H'
                    try clear c1
                    try clear p1
                    try clear q1
                    try clear hx1
                    try clear qi1
                    try clear p2
                    try clear c3
                    try clear c3b0
                    try clear c3b1
                    try clear c5
                    try clear c5b0
                    try clear c5b1
                    try clear c6
                    try clear c6b0
                    try clear c6b1
                    try clear p6
                    try clear c8
                    try clear c10
                    try clear c10b0
                    try clear c10b1
                    try clear c11
                    try clear c11b0
                    try clear c11b1
                    try clear c12
                    try clear c12b0
                    try clear c12b1
                    try clear c14
                    try clear c14b0
                    try clear c14b1
                    try clear c15
                    try clear c15b0
                    try clear c15b1
                    try clear p16
                    try clear q16
                    try clear hx16
                    try clear qi16
                    try clear c17
                    try clear c17b0
                    try clear c17b1
                    try clear p18
                    try clear q18
                    try clear hx18
                    try clear qi18
                    try clear c19
                    try clear p1
                    try clear p16
                    try clear p18
                    try clear p2
                    try clear p6
                    try clear q1
                    try clear q16
                    try clear q18
                    obtain ⟨x7_4, x8_4, rfl, rfl, HA, HK4, ⟨m4, rfl⟩⟩ := hrel
                    cases gk with
                    | zero => exact absurd HA.out (by simp [hindcastref14_Parse.l0])
                    | succ k4 =>
                      have H := HA.out
                      clear HA
                      simp only [hindcastref14_Parse.l0] at H
                      by_cases c20 : x8_4 < 17
                      · rw [if_pos c20] at H
                        have c20b0 : decide (x8_4 < 17) = true := decide_eq_true c20
                        clear c20
                        by_cases c21 : 0 ≤ x8_4
                        · rw [if_pos c21] at H
                          have c21b0 : decide (0 ≤ x8_4) = true := decide_eq_true c21
                          clear c21
                          by_cases c22 : x8_4 < (x0_6.size : Int)
                          · rw [if_pos c22] at H
                            have c22b0 : decide (x8_4 < (x0_6.size : Int)) = true := decide_eq_true c22
                            clear c22
                            replace H := Option.bind_eq_some_iff.mp H
                            obtain ⟨t147, A240, H⟩ := H
                            replace H : (if t147 < 0 then (some (0, 0, false, false)) else ((hindcastref14_digit.f k4 (bt x0_6 x8_4)).bind fun t148 => (hindcastref14_Parse.l0 k4 x0_6 x6_1 (IntKind.u64.wrap ((IntKind.u64.wrap (16 * x7_4)) + (IntKind.u64.wrap (t148)))) (wrap64 (x8_4 + 1))))) = some (r1, r2, r3, r4) := H
                            have A24 := Aside0.mk A240
                            clear A240
                            by_cases c25 : t147 < 0
                            · rw [if_pos c25] at H
                              have c25b0 : decide (t147 < 0) = true := decide_eq_true c25
                              clear c25
                              simp only [Option.some.injEq, Prod.mk.injEq] at H
                              obtain ⟨rfl, rfl, rfl, rfl⟩ := H
                              have p23 : 0 ≤ (x8_4 : Int) := of_decide_eq_true (by first | (with_reducible assumption) | assumption)
                              have q23 : x8_4 < (x0_6.size : Int) := of_decide_eq_true (by first | (with_reducible assumption) | assumption)
                              have hx23 := bt_at x0_6 x8_4
                              replace p23 := eq_true p23
                              replace q23 := eq_true q23
                              go_wp2_with (first | ((with_reducible refine gate_callee (f := 15) rfl ?_); refine goesL_ (some 49) rfl rfl Tryd.func15 (by kernel_rfl) rfl #[.int .u8 (bt x0_6 x8_4)] rfl (by (try simp only [List.map_toArray, List.map_cons, List.map_nil]); first | done | rfl | (simp only [List.length_drop, List.length_take]; rfl)) ?_; (with_reducible refine (hindcastref14_digit.calls k4 (bt x0_6 x8_4) t147 _ A24.out).mono ?_); rintro e w' ⟨rfl, ⟨nd, rfl⟩⟩; refine ⟨_, rfl, ?_⟩))
                              refine bodyPost_ret (results_list (rs := [.tmp 2, .tmp 3, .tmp 4, .tmp 5]) rfl (by simp) (.tmp (.tmp (.tmp (.tmp .nil))))) rfl ?_
                              exact ⟨by first | rfl | (simp; done) | (simp [*]; done), by repeat (first | exact Drawn0.refl _ | apply Drawn0.step)⟩
                            · rw [if_neg c25] at H
                              have c25b0 : decide (t147 < 0) = false := decide_eq_false c25
                              clear c25
                              replace H := Option.bind_eq_some_iff.mp H
                              obtain ⟨t148, A270, H⟩ := H
                              replace H : (hindcastref14_Parse.l0 k4 x0_6 x6_1 (IntKind.u64.wrap ((IntKind.u64.wrap (16 * x7_4)) + (IntKind.u64.wrap (t148)))) (wrap64 (x8_4 + 1))) = some (r1, r2, r3, r4) := H
                              have A27 := Aside0.mk A270
                              clear A270
                              have H' := Aside0.mk H
                              clear H
                              have p23 : 0 ≤ (x8_4 : Int) := of_decide_eq_true (by first | (with_reducible assumption) | assumption)
                              have q23 : x8_4 < (x0_6.size : Int) := of_decide_eq_true (by first | (with_reducible assumption) | assumption)
                              have hx23 := bt_at x0_6 x8_4
                              replace p23 := eq_true p23
                              replace q23 := eq_true q23
                              go_wp2_with (first | ((with_reducible refine gate_callee (f := 15) rfl ?_); refine goesL_ (some 49) rfl rfl Tryd.func15 (by kernel_rfl) rfl #[.int .u8 (bt x0_6 x8_4)] rfl (by (try simp only [List.map_toArray, List.map_cons, List.map_nil]); first | done | rfl | (simp only [List.length_drop, List.length_take]; rfl)) ?_; (with_reducible refine (hindcastref14_digit.calls k4 (bt x0_6 x8_4) t147 _ A24.out).mono ?_); rintro e w' ⟨rfl, ⟨nd, rfl⟩⟩; refine ⟨_, rfl, ?_⟩; have p26 : 0 ≤ (x8_4 : Int) := of_decide_eq_true (by first | (with_reducible assumption) | assumption); have q26 : x8_4 < (x0_6.size : Int) := of_decide_eq_true (by first | (with_reducible assumption) | assumption); have hx26 := bt_at x0_6 x8_4; replace p26 := eq_true p26; replace q26 := eq_true q26) | ((with_reducible refine gate_callee (f := 15) rfl ?_); refine goesL_ (some 56) rfl rfl Tryd.func15 (by kernel_rfl) rfl #[.int .u8 (bt x0_6 x8_4)] rfl (by (try simp only [List.map_toArray, List.map_cons, List.map_nil]); first | done | rfl | (simp only [List.length_drop, List.length_take]; rfl)) ?_; (with_reducible refine (hindcastref14_digit.calls k4 (bt x0_6 x8_4) t148 _ A27.out).mono ?_); rintro e w' ⟨rfl, ⟨nd, rfl⟩⟩; refine ⟨_, rfl, ?_⟩))
                              go_roundg k4
                              case measure => have := HJ1.out; have := HJ6.out; have := HJ12.out; have := HK4.out; omega
                              case rel => exact ⟨(IntKind.u64.wrap ((IntKind.u64.wrap (16 * x7_4)) + (IntKind.u64.wrap (t148)))), (wrap64 (x8_4 + 1)), (by first | rfl | (simp; done) | (simp [*]; done)), (by first | rfl | (simp; done) | (simp [*]; done)), H', ⟨by have := HJ1.out; have := HJ6.out; have := HJ12.out; have := HK4.out; omega⟩, by repeat (first | exact Drawn0.refl _ | apply Drawn0.step)⟩
                          · rw [if_neg c22] at H
                            exact absurd H (by simp)
                        · rw [if_neg c21] at H
                          exact absurd H (by simp)
                      · rw [if_neg c20] at H
                        have c20b0 : decide (x8_4 < 17) = false := decide_eq_false c20
                        clear c20
                        by_cases c28 : 0 < (x0_6.size : Int)
                        · rw [if_pos c28] at H
                          have c28b0 : decide (0 < (x0_6.size : Int)) = true := decide_eq_true c28
                          have c28b1 : decide (0 < x0_6.size) = true := decide_eq_true (by omega)
                          clear c28
                          by_cases c30 : (bt x0_6 0) = 115
                          · rw [if_pos c30] at H
                            have c30b0 : ((bt x0_6 0) == 115) = true := beq_iff_eq.mpr c30
                            have c30b1 : ((bt x0_6 0) != 115) = false := bne_eq_false_iff_eq.mpr c30
                            clear c30
                            simp only [Option.some.injEq, Prod.mk.injEq] at H
                            obtain ⟨rfl, rfl, rfl, rfl⟩ := H
                            have p29 : 0 ≤ (0 : Int) := (by omega)
                            have q29 : 0 < x0_6.size := (by have : (0 : Int) < (x0_6.size : Int) := of_decide_eq_true (by first | (with_reducible assumption) | assumption); omega)
                            have hx29 : ∀ h : 0 < x0_6.size, ((x0_6[0]'h).toNat : Int) = bt x0_6 0 := bt_at x0_6 0
                            clear p29
                            have qi29 : (0 < (x0_6.size : Int)) = True := eq_true (of_decide_eq_true (by first | (with_reducible assumption) | assumption))
                            replace q29 := eq_true q29
                            go_wp2
                            refine bodyPost_ret (results_list (rs := [.tmp 2, .tmp 3, .tmp 4, .tmp 5]) rfl (by simp) (.tmp (.tmp (.tmp (.tmp .nil))))) rfl ?_
                            exact ⟨by first | rfl | (simp; done) | (simp [*]; done), by repeat (first | exact Drawn0.refl _ | apply Drawn0.step)⟩
                          · rw [if_neg c30] at H
                            have c30b0 : ((bt x0_6 0) == 115) = false := beq_eq_false_iff_ne.mpr c30
                            have c30b1 : ((bt x0_6 0) != 115) = true := bne_iff_ne.mpr c30
                            simp only [Option.some.injEq, Prod.mk.injEq] at H
                            obtain ⟨rfl, rfl, rfl, rfl⟩ := H
                            have p29 : 0 ≤ (0 : Int) := (by omega)
                            have q29 : 0 < x0_6.size := (by have : (0 : Int) < (x0_6.size : Int) := of_decide_eq_true (by first | (with_reducible assumption) | assumption); omega)
                            have hx29 : ∀ h : 0 < x0_6.size, ((x0_6[0]'h).toNat : Int) = bt x0_6 0 := bt_at x0_6 0
                            clear p29
                            have qi29 : (0 < (x0_6.size : Int)) = True := eq_true (of_decide_eq_true (by first | (with_reducible assumption) | assumption))
                            replace q29 := eq_true q29
                            go_wp2
                            refine bodyPost_ret (results_list (rs := [.tmp 2, .tmp 3, .tmp 4, .tmp 5]) rfl (by simp) (.tmp (.tmp (.tmp (.tmp .nil))))) rfl ?_
                            exact ⟨by first | rfl | (simp; done) | (simp [*]; done), by repeat (first | exact Drawn0.refl _ | apply Drawn0.step)⟩
                        · rw [if_neg c28] at H
                          exact absurd H (by simp)
-- NOT PRINTED: function 3 (hindcastlaw14_NamesParse)
end Go.Proofs.YtlfgncdneiempaaDoor.PNamesParse
/- ParseUint of hex digits (functions 26, 14), Trim, Parse (5). -/
set_option linter.unusedVariables false
set_option linter.unusedSimpArgs false
namespace Go.Proofs.YtlfgncdneiempaaDoor.Nw
open Go.RowKit Go.Proofs.YtlfgncdneiempaaDoorW.PrintWords Go.Proofs.YtlfgncdneiempaaDoorW.PrintLast Go.Proofs.YtlfgncdneiempaaDoorW.PrintMore Go.Proofs.YtlfgncdneiempaaDoor.PNamesParse Go.Proofs.Nz
set_option maxRecDepth 100000
theorem bytes_below (w : World) (s : ByteArray) : Below w.heap.size w (Lib.bytesWorld w 5 s) :=
  ⟨rfl, rfl, rfl, by rw [Lib.bytesWorld_size]; omega, fun k hk => Lib.bytesWorld_at_old w 5 s k hk⟩
def Bytes (w : World) (A : Option Addr) (l : List UInt8) : Prop := ∀ (j : Nat) (h : j < l.length), ∃ ad, A = some ad ∧ w.cell? (ad.add j) = some (.int .u8 ((l[j]).toNat : Int))
theorem bytes_cells (w : World) (l : Tx) : Bytes (Lib.bytesWorld w 5 (bs l)) (some ⟨w.heap.size, 0, none⟩) l := fun j h => by
  refine ⟨_, rfl, ?_⟩
  have := Lib.bytesWorld_cell w 5 (bs l) j (by rw [bs_size]; exact h)
  rw [bs_list, List.getD_eq_getElem?_getD, List.getElem?_eq_getElem h] at this
  rw [show (⟨w.heap.size, 0, none⟩ : Addr).add j = ⟨w.heap.size, j, none⟩ from by cases j <;> simp [Addr.add]]
  exact this
theorem cell_below {w W : World} {a : Addr} {v : Value} (h : w.cell? a = some v) (hB : Below w.heap.size w W) : W.cell? a = some v := by
  have hlt : a.block < w.heap.size := by
    rcases Nat.lt_or_ge a.block w.heap.size with h1 | h1
    · exact h1
    · exfalso
      unfold World.cell? at h
      rw [Array.getElem?_eq_none h1] at h
      simp at h
  rw [← h]
  unfold World.cell?
  rw [hB.block a.block hlt]
theorem addr_add (g j : Nat) : (⟨g, 0, none⟩ : Addr).add j = ⟨g, j, none⟩ := by unfold Addr.add; split <;> simp_all
theorem lower_calls (w : World) (c : Int) (h : Go.bits .or .u8 c 32 = c) : Calls Tryd.prog 36 #[.int .u8 c] w fun e w' => e = .returned (.int .u8 c) ∧ w' = w := by
  go_enter Tryd.func36, Tryd.ntmps36
  go_wp2
  go_ret
  exact ⟨rfl, rfl⟩
set_option maxHeartbeats 2000000 in
theorem iparse_calls (w : World) (l : Tx) (h0 : 1 ≤ l.length) (h16 : l.length ≤ 16) (hx : l.all isHex = true) :
    Calls Tryd.prog 26 #[.string (bs l), .int .i64 16, .int .i64 64] w fun e w' => e = .returned (.tuple #[.int .u64 (hexN l : Int), .nilIface]) ∧ Below w.heap.size w w' := by
  have hbl := bs_toList l
  have hns := bs_size l
  have hconv : (convert 9 48 (.string (bs l))).run Tryd.prog w = .ok (.slice (some ⟨w.heap.size, 0, none⟩) (bs l).size (grownCap w (bs l).size 0 5)) (Lib.bytesWorld w 5 (bs l)) := Lib.run_convert_string_bytes w 9 48 5 (bs l) Tryd.underlying9 Tryd.underlying48 Tryd.underlying5
  rw [hns] at hconv
  have e1 : (l == []) = false := by cases l with | nil => simp at h0 | cons _ _ => rfl
  have e2 : l.isEmpty = false := by cases l with | nil => simp at h0 | cons _ _ => rfl
  have HB := Lib.hid (bytes_below w (bs l))
  have HC := Lib.hid (bytes_cells w l)
  have HX := Lib.hid hx
  have hmx : IntKind.u64.wrap (IntKind.u64.wrap 18446744073709551616 - 1) = 18446744073709551615 := by decide
  clear hx
  go_enter Tryd.func26, Tryd.ntmps26
  go_wp2_with fail
  go_loopw [12, 13, 101] (fun t12 t13 t101 wr => ∃ i : Nat, i ≤ l.length ∧ t101 = .int .i64 i ∧ t12 = .bool false ∧ t13 = .int .u64 (hexN (l.take i) : Int) ∧ Below (Lib.bytesWorld w 5 (bs l)).heap.size (Lib.bytesWorld w 5 (bs l)) wr) (fun _ _ t101 _ => l.length - (intOf t101).toNat)
  case atStart => exact ⟨0, Nat.zero_le _, rfl, rfl, rfl, Below.refl _ _⟩
  case round =>
    obtain ⟨i, hi, rfl, rfl, rfl, hB2⟩ := hrel
    have HB2 := Lib.hid hB2
    clear hB2 hconv hbl hns e1 e2
    by_cases hlt : i < l.length
    · have hltb : decide ((i : Int) < (l.length : Int)) = true := decide_eq_true (by omega)
      have hk0 : 0 ≤ (i : Int) := by omega
      obtain ⟨ad, hA, hcell⟩ := HC.out i hlt
      cases hA
      have hcl := cell_below hcell HB2.out
      rw [addr_add] at hcl
      have hxc : isHex l[i] = true := List.all_eq_true.1 HX.out _ (List.getElem_mem hlt)
      have hnb := hexN_lt i (l.take i) (by rw [List.length_take]; omega) (by
        have := HX.out
        rw [← List.take_append_drop i l, List.all_append, Bool.and_eq_true] at this
        exact this.1)
      have hnb2 : hexN (l.take i) < 1152921504606846976 := Nat.lt_of_lt_of_le hnb (Nat.le_trans (Nat.pow_le_pow_right (by decide) (show i ≤ 15 by omega)) (by decide))
      have HS := Lib.hid (show hexN (l.take (i + 1)) = 16 * hexN (l.take i) + hexV l[i] by rw [List.take_succ_eq_append_getElem hlt, hexN_snoc])
      clear hcell hnb
      generalize l[i] = c at *
      generalize hexN (l.take i) = n at *
      have hc256 := UInt8.toNat_lt c
      have hv := hexV_lt hxc
      unfold isHex at hxc
      simp only [Bool.or_eq_true, Bool.and_eq_true, decide_eq_true_eq] at hxc
      have hcut : decide ((1152921504606846976 : Int) ≤ (n : Int)) = false := decide_eq_false (by omega)
      have hw1 : IntKind.u64.wrap ((n : Int) * 16) = (n : Int) * 16 := IntWalk.u64_in _ ⟨by omega, by omega⟩
      by_cases hd : c.toNat ≤ 57
      · have d1 : decide ((48 : Int) ≤ (c.toNat : Int)) = true := decide_eq_true (by omega)
        have d2 : decide ((c.toNat : Int) ≤ 57) = true := decide_eq_true (by omega)
        have hx2 : hexV c = c.toNat - 48 := by unfold hexV; rw [if_pos hd]
        have hw3 : IntKind.u8.wrap ((c.toNat : Int) - 48) = (c.toNat : Int) - 48 := IntWalk.u8_in _ ⟨by omega, by omega⟩
        have d3 : decide ((16 : Int) ≤ (c.toNat : Int) - 48) = false := decide_eq_false (by omega)
        have hw4 : IntKind.u64.wrap ((c.toNat : Int) - 48) = (c.toNat : Int) - 48 := IntWalk.u64_in _ ⟨by omega, by omega⟩
        have hw5 : IntKind.u64.wrap ((n : Int) * 16 + ((c.toNat : Int) - 48)) = (n : Int) * 16 + ((c.toNat : Int) - 48) := IntWalk.u64_in _ ⟨by omega, by omega⟩
        have d6 : decide ((n : Int) * 16 + ((c.toNat : Int) - 48) < (n : Int) * 16) = false := decide_eq_false (by omega)
        have d7 : decide ((18446744073709551615 : Int) < (n : Int) * 16 + ((c.toNat : Int) - 48)) = false := decide_eq_false (by omega)
        have HN := Lib.hid (show (n : Int) * 16 + ((c.toNat : Int) - 48) = (hexN (l.take (i + 1)) : Int) by rw [HS.out, hx2]; omega)
        clear hx2
        go_wp2_with fail
        exact ⟨⟨i + 1, by omega, by go_num, rfl, by rw [HN.out], HB2.out⟩, by simp [intOf]; omega⟩
      · have d1 : decide ((48 : Int) ≤ (c.toNat : Int)) = true := decide_eq_true (by omega)
        have d2 : decide ((c.toNat : Int) ≤ 57) = false := decide_eq_false (by omega)
        have d1b : decide ((97 : Int) ≤ (c.toNat : Int)) = true := decide_eq_true (by omega)
        have d2b : decide ((c.toNat : Int) ≤ 122) = true := decide_eq_true (by omega)
        have d95 : ((c.toNat : Int) == 95) = false := by simp; omega
        have hx2 : hexV c = c.toNat - 87 := by unfold hexV; rw [if_neg hd]
        have hw3 : IntKind.u8.wrap ((c.toNat : Int) - 97) = (c.toNat : Int) - 97 := IntWalk.u8_in _ ⟨by omega, by omega⟩
        have hw3b : IntKind.u8.wrap ((c.toNat : Int) - 97 + 10) = (c.toNat : Int) - 97 + 10 := IntWalk.u8_in _ ⟨by omega, by omega⟩
        have d3 : decide ((16 : Int) ≤ (c.toNat : Int) - 97 + 10) = false := decide_eq_false (by omega)
        have hw4 : IntKind.u64.wrap ((c.toNat : Int) - 97 + 10) = (c.toNat : Int) - 97 + 10 := IntWalk.u64_in _ ⟨by omega, by omega⟩
        have hw5 : IntKind.u64.wrap ((n : Int) * 16 + ((c.toNat : Int) - 97 + 10)) = (n : Int) * 16 + ((c.toNat : Int) - 97 + 10) := IntWalk.u64_in _ ⟨by omega, by omega⟩
        have d6 : decide ((n : Int) * 16 + ((c.toNat : Int) - 97 + 10) < (n : Int) * 16) = false := decide_eq_false (by omega)
        have d7 : decide ((18446744073709551615 : Int) < (n : Int) * 16 + ((c.toNat : Int) - 97 + 10)) = false := decide_eq_false (by omega)
        have HN := Lib.hid (show (n : Int) * 16 + ((c.toNat : Int) - 97 + 10) = (hexN (l.take (i + 1)) : Int) by rw [HS.out, hx2]; omega)
        have hlo : Go.bits .or .u8 (c.toNat : Int) 32 = (c.toNat : Int) := by
          obtain ⟨m, hm⟩ : ∃ m, c.toNat = m := ⟨_, rfl⟩
          rw [hm] at hxc hd ⊢
          rcases (show m = 97 ∨ m = 98 ∨ m = 99 ∨ m = 100 ∨ m = 101 ∨ m = 102 by omega) with rfl | rfl | rfl | rfl | rfl | rfl <;> decide
        clear hx2
        go_wp2_with (first | (go_at_call 36; refine (lower_calls wr (c.toNat : Int) hlo).mono ?_; rintro e w' ⟨rfl, hw'⟩; obtain rfl := hw'.symm))
        exact ⟨⟨i + 1, by omega, by go_num, rfl, by rw [HN.out], HB2.out⟩, by simp [intOf]; omega⟩
    · have hltb : decide ((i : Int) < (l.length : Int)) = false := decide_eq_false (by omega)
      obtain rfl : i = l.length := by omega
      rw [List.take_length]
      go_wp2_with fail
      go_ret2
      exact ⟨rfl, HB.out.trans (HB2.out.mono HB.out.size)⟩
theorem parseUint_calls (w : World) (l : Tx) (h0 : 1 ≤ l.length) (h16 : l.length ≤ 16) (hx : l.all isHex = true) :
    Calls Tryd.prog 14 #[.string (bs l), .int .i64 16, .int .i64 64] w fun e w' => e = .returned (.tuple #[.int .u64 (hexN l : Int), .nilIface]) ∧ Below w.heap.size w w' := by
  have HI := Lib.hid (iparse_calls w l h0 h16 hx)
  clear hx
  go_enter Tryd.func14, Tryd.ntmps14
  go_wp2_with fail
  refine HI.out.mono ?_
  rintro e w2 ⟨rfl, hB⟩
  have HB := Lib.hid hB
  clear hB
  go_wp2_with fail
  go_ret2
  exact ⟨rfl, HB.out⟩
theorem trim_calls (w : World) (l : Tx) (hl : l.length ≤ 4000) : Calls Tryd.prog 12 #[.string (bs l), .string (bs hexSet)] w fun e w' => e = .returned (.string (bs (Lib.trimS l hexSet))) ∧ Below w.heap.size w w' := by
  have h := Any.strings_Trim_laid Tryd.lays160 (by kernel_rfl) (bs l) (bs hexSet) w (by rw [bs_size]; omega) (by decide) (fun j b hj => by rw [bs_list] at hj; exact (show ∀ b ∈ hexSet, b.toNat < 128 by decide) b (List.mem_of_getElem? hj))
  rw [bs_list, bs_list] at h
  exact h
theorem cut_is (l : Tx) : Lib.trimSuffix l suf = (cutNew l).1 ∧ Lib.hasSuffix l suf = (cutNew l).2 := by
  have h : Lib.hasSuffix l suf = true ↔ (4 ≤ l.length ∧ l.drop (l.length - 4) = suf) := by
    unfold Lib.hasSuffix
    rw [List.isSuffixOf_iff_suffix]
    constructor
    · rintro ⟨t, rfl⟩
      have h4 : suf.length = 4 := rfl
      rw [List.length_append, h4]
      refine ⟨by omega, ?_⟩
      rw [Nat.add_sub_cancel, List.drop_left]
    · rintro ⟨h1, h2⟩
      exact ⟨l.take (l.length - 4), by rw [← h2, List.take_append_drop]⟩
  unfold Lib.trimSuffix cutNew
  by_cases hc : 4 ≤ l.length ∧ l.drop (l.length - 4) = suf
  · rw [if_pos (h.2 hc), if_pos hc]
    exact ⟨rfl, h.2 hc⟩
  · have hf : Lib.hasSuffix l suf = false := by
      cases hs : Lib.hasSuffix l suf with
      | false => rfl
      | true => exact absurd (h.1 hs) hc
    rw [if_neg (by rw [hf]; exact Bool.false_ne_true), if_neg hc]
    exact ⟨rfl, hf⟩
theorem cutsuf_calls (w : World) (l : Tx) (hl : l.length ≤ 4000) : Calls Tryd.prog 11 #[.string (bs l), .string (bs suf)] w fun e w' => e = .returned (.tuple #[.string (bs (cutNew l).1), .bool (cutNew l).2]) ∧ w' = w := by
  have h := Tryd.strings_CutSuffix (bs l) (bs suf) w (by rw [bs_size]; omega)
  rw [bs_list, bs_list, (cut_is l).1, (cut_is l).2] at h
  exact h
theorem cut_len (l : Tx) : (cutNew l).1.length ≤ l.length := by
  unfold cutNew
  split
  · rw [List.length_take]; omega
  · exact Nat.le_refl _
theorem bs_tail {l : Tx} {n : Nat} (h : l.length = n) : (bs l).extract 1 n = bs l.tail := by
  subst h
  apply ByteArray.ext
  apply Array.ext'
  simp [bs, List.extract_eq_take_drop]
  exact List.take_of_length_le (by simp)
theorem results_tmp4 {fn : Func} {t u v x : Tmp} (h : fn.results = #[.tmp t, .tmp u, .tmp v, .tmp x]) (tmps : Array Value) (P : Program) (w : World) :
    (results fn tmps).run P w = .ok (.tuple #[tmps.getD t undef, tmps.getD u undef, tmps.getD v undef, tmps.getD x undef]) w := by
  simp [results, h]
theorem kind_is (c : UInt8) (r : Tx) : Lib.indexByte [115, 99] c + 1 = (kindOf (c :: r) : Int) ∧ kindOf (c :: r) ≤ 2 := by
  unfold kindOf
  simp only [Lib.indexByte, List.head?_cons, Option.some.injEq]
  by_cases h1 : c = 115
  · subst h1; decide
  · by_cases h2 : c = 99
    · subst h2; decide
    · have e1 : ((115 : UInt8) == c) = false := by simp; exact fun h => h1 h.symm
      have e2 : ((99 : UInt8) == c) = false := by simp; exact fun h => h2 h.symm
      simp [e1, e2, h1, h2]
theorem idx_calls (w : World) (c : UInt8) (t : Tx) : Calls Tryd.prog 13 #[.string ⟨#[115, 99]⟩, .int .u8 (c.toNat : Int)] w fun e w' => e = .returned (.int .i64 ((kindOf (c :: t) : Int) - 1)) ∧ w' = w := by
  have h := Tryd.strings_IndexByte ⟨#[115, 99]⟩ (c.toNat : Int) w
  have h1 := (kind_is c t).1
  rw [show ((c.toNat : Int).toNat).toUInt8 = c by rw [Int.toNat_natCast]; exact UInt8.ofNat_toNat] at h
  refine h.mono ?_
  rintro e w' ⟨rfl, rfl⟩
  have h2 : Lib.indexByte (⟨#[115, 99]⟩ : ByteArray).data.toList c = Lib.indexByte [115, 99] c := rfl
  rw [h2, show Lib.indexByte [115, 99] c = (kindOf (c :: t) : Int) - 1 by omega]
  exact ⟨rfl, rfl⟩
set_option maxHeartbeats 2000000 in
theorem parse_calls (w : World) (l : Tx) (hl : l.length ≤ 4000) :
    Calls Tryd.prog 5 #[.string (bs l)] w fun e w' => e = .returned (.tuple #[.int .i64 ((parse l).k : Int), .int .u64 ((parse l).n : Int), .bool (parse l).f, .bool (parse l).ok]) ∧ Below w.heap.size w w' := by
  have HC := Lib.hid (cutsuf_calls w l hl)
  have hml := cut_len l
  have HP := Lib.hid (show parse l = nameOf (cutNew l).1 (cutNew l).2 from rfl)
  go_enter Tryd.func5, Tryd.ntmps5
  go_wp2_with fail
  refine HC.out.mono ?_
  rintro e w2 ⟨rfl, hw2⟩
  obtain rfl := hw2.symm
  clear HC hw2
  generalize (cutNew l).1 = m at *
  generalize (cutNew l).2 = f at *
  have hbm := bs_toList m
  have hsz := bs_size m
  by_cases hm : m = man
  · subst hm
    go_wp2_with fail
    (try simp only [Exit.inBlock, Exit.then]); refine bodyPost_ret (results_tmp4 rfl _ _ _) rfl ?_
    exact ⟨by rw [HP.out]; rfl, Below.refl _ _⟩
  · have hman : (m == [109, 97, 110, 105, 102, 101, 115, 116]) = false := by
      cases h : m == [109, 97, 110, 105, 102, 101, 115, 116] with
      | false => rfl
      | true => exact absurd (eq_of_beq h) hm
    by_cases h17 : m.length = 17
    · have d17 : ((m.length : Int) != 17) = false := by simp; omega
      have hex := bs_tail h17
      obtain ⟨c, t, rfl⟩ : ∃ c t, m = c :: t := by cases m with | nil => simp at h17 | cons c t => exact ⟨c, t, rfl⟩
      have h16 : t.length = 16 := by simpa using h17
      rw [List.tail_cons] at hex
      have HT := Lib.hid (trim_calls w t (by omega))
      go_wp2_with fail
      refine HT.out.mono ?_
      rintro e w3 ⟨rfl, hB3⟩
      have HB3 := Lib.hid hB3
      clear hB3 HT
      have hth := Lib.hid (trim_hex t)
      have hbT := bs_toList (Lib.trimS t hexSet)
      generalize Lib.trimS t hexSet = T at *
      cases hx : t.all isHex with
      | false =>
        have hT0 : T ≠ [] := fun e => by have := hth.out.1 e; rw [hx] at this; cases this
        have e1 : (T == []) = false := by cases T with | nil => exact absurd rfl hT0 | cons _ _ => rfl
        have e2 : T.isEmpty = false := by cases T with | nil => exact absurd rfl hT0 | cons _ _ => rfl
        have HX := Lib.hid hx
        clear hT0 hx
        go_wp2_with fail
        (try simp only [Exit.inBlock, Exit.then]); refine bodyPost_ret (results_tmp4 rfl _ _ _) rfl ?_
        exact ⟨by rw [HP.out, nameOf, if_neg hm, if_neg (by rw [List.tail_cons, HX.out]; simp)]; rfl, HB3.out⟩
      | true =>
        have hT0 : T = [] := hth.out.2 hx
        subst hT0
        have HX := Lib.hid hx
        clear hx hth
        go_wp2_with fail
        refine (show Calls Tryd.prog 13 #[.string ⟨#[115, 99]⟩, .int .u8 ((bs (c :: t))[0].toNat : Int)] w3 _ from idx_calls w3 c t).mono ?_
        rintro e w4 ⟨rfl, hw4⟩
        obtain rfl := hw4.symm
        have hk2 := (kind_is c t).2
        have HN := Lib.hid (show parse l = if kindOf (c :: t) ≠ 0 then ⟨kindOf (c :: t), hexN t, f, true⟩ else none' by
          rw [HP.out, nameOf, if_neg hm, List.tail_cons, HX.out]
          by_cases hk : kindOf (c :: t) = 0
          · rw [if_neg (fun h => h.2.2 hk), if_neg (fun h => h hk)]
          · rw [if_pos ⟨h17, rfl, hk⟩, if_pos hk])
        have HPU := Lib.hid (parseUint_calls w3 t (by omega) (by omega) HX.out)
        generalize kindOf (c :: t) = k at *
        have hw : IntKind.i64.wrap ((k : Int) - 1 + 1) = (k : Int) := by rw [IntWalk.i64_in _ ⟨by omega, by omega⟩]; omega
        by_cases hk : k = 0
        · subst hk
          have d0 : (((0 : Nat) : Int) == 0) = true := rfl
          rw [if_neg (fun h => h rfl)] at HN
          go_wp2_with fail
          (try simp only [Exit.inBlock, Exit.then]); refine bodyPost_ret (results_tmp4 rfl _ _ _) rfl ?_
          exact ⟨by rw [HN.out]; rfl, HB3.out⟩
        · have d0 : ((k : Int) == 0) = false := by simp; omega
          rw [if_pos hk] at HN
          go_wp2_with fail
          refine HPU.out.mono ?_
          rintro e w5 ⟨rfl, hB5⟩
          have HB5 := Lib.hid (HB3.out.trans (hB5.mono HB3.out.size))
          clear hB5 HPU HB3
          go_wp2_with fail
          (try simp only [Exit.inBlock, Exit.then]); refine bodyPost_ret (results_tmp4 rfl _ _ _) rfl ?_
          exact ⟨by rw [HN.out]; rfl, HB5.out⟩
    · have d17 : ((m.length : Int) != 17) = true := by simp; omega
      go_wp2_with fail
      (try simp only [Exit.inBlock, Exit.then]); refine bodyPost_ret (results_tmp4 rfl _ _ _) rfl ?_
      exact ⟨by rw [HP.out, nameOf, if_neg hm, if_neg (fun h => h17 h.1)]; rfl, Below.refl _ _⟩
end Go.Proofs.YtlfgncdneiempaaDoor.Nw
/- The document's Parse (printed) in plain words. -/
set_option linter.unusedVariables false
set_option linter.unusedSimpArgs false
namespace Go.Proofs.YtlfgncdneiempaaDoor.Nw
open Go.RowKit Go.Proofs.YtlfgncdneiempaaDoorW.PrintWords Go.Proofs.YtlfgncdneiempaaDoorW.PrintLast Go.Proofs.YtlfgncdneiempaaDoorW.PrintMore Go.Proofs.YtlfgncdneiempaaDoor.PNamesParse Go.Proofs.Nz
set_option maxRecDepth 100000
def ref4 (p : Nm) : Int × Int × Bool × Bool := ((p.k : Int), (p.n : Int), p.f, p.ok)
theorem bt_bs (l : Tx) (i : Nat) (h : i < l.length) : bt (bs l) (i : Int) = ((l[i]).toNat : Int) := by
  unfold bt
  rw [dif_pos (by rw [bs_size, Int.toNat_natCast]; exact h)]
  rfl
theorem digit_all : ∀ i : Fin 256, hindcastref14_digit.f 1 (i.val : Int) = some (if isHex (UInt8.ofNat i.val) then (hexV (UInt8.ofNat i.val) : Int) else -1) := by decide +kernel
theorem digit_is (k : Nat) (c : UInt8) : hindcastref14_digit.f (k + 1) (c.toNat : Int) = some (if isHex c then (hexV c : Int) else -1) := by
  have h := digit_all ⟨c.toNat, UInt8.toNat_lt c⟩
  rw [show UInt8.ofNat (⟨c.toNat, UInt8.toNat_lt c⟩ : Fin 256).val = c from UInt8.ofNat_toNat] at h
  exact h
theorem l0_eq (k : Nat) (x0 : ByteArray) (x6 : Bool) (x7 x8 : Int) : hindcastref14_Parse.l0 (k + 1) x0 x6 x7 x8 = if x8 < 17 then (if 0 ≤ x8 then (if x8 < (x0.size : Int) then ((hindcastref14_digit.f k (bt x0 x8)).bind fun t147 => (if t147 < 0 then (some (0, 0, false, false)) else ((hindcastref14_digit.f k (bt x0 x8)).bind fun t148 => (hindcastref14_Parse.l0 k x0 x6 (IntKind.u64.wrap ((IntKind.u64.wrap (16 * x7)) + (IntKind.u64.wrap (t148)))) (wrap64 (x8 + 1)))))) else (none)) else (none)) else (if 0 < (x0.size : Int) then (if (bt x0 0) = 115 then (some (1, x7, x6, true)) else (some (2, x7, x6, true))) else (none)) := by
  rw [hindcastref14_Parse.l0]
theorem l0_is (c : UInt8) (t : Tx) (ht : t.length = 16) (hk : kindOf (c :: t) ≠ 0) (f : Bool) : ∀ (j i : Nat), i + j = 16 → (t.take i).all isHex = true →
    hindcastref14_Parse.l0 (j + 2) (bs (c :: t)) f (hexN (t.take i) : Int) ((i + 1 : Nat) : Int) = some (if t.all isHex then ref4 ⟨kindOf (c :: t), hexN t, f, true⟩ else ref4 none')
  | 0, i, hi, hall => by
    obtain rfl : i = 16 := by omega
    rw [show t.take 16 = t by rw [← ht, List.take_length]] at hall ⊢
    rw [l0_eq, if_neg (by omega), bs_size, if_pos (by simp)]
    have h0 := bt_bs (c :: t) 0 (by simp)
    rw [List.getElem_cons_zero] at h0
    have h0' : bt (bs (c :: t)) 0 = (c.toNat : Int) := h0
    rw [h0', if_pos hall]
    unfold kindOf at hk ⊢
    simp only [List.head?_cons, Option.some.injEq] at hk ⊢
    by_cases h1 : c = 115
    · subst h1; rfl
    · have h2 : c = 99 := by
        by_cases h2 : c = 99
        · exact h2
        · rw [if_neg h1, if_neg h2] at hk; exact absurd rfl hk
      subst h2
      rfl
  | j + 1, i, hi, hall => by
    have hit : i < t.length := by omega
    rw [l0_eq, if_pos (by omega), if_pos (by omega), bs_size, if_pos (by rw [List.length_cons]; omega)]
    have hb := bt_bs (c :: t) (i + 1) (by rw [List.length_cons]; omega)
    rw [List.getElem_cons_succ] at hb
    have hd := digit_is (j + 1) t[i]
    generalize hindcastref14_digit.f (j + 1 + 1) = D at *
    rw [hb]
    generalize hKont : (fun t148 : Int => hindcastref14_Parse.l0 (j + 2) (bs (c :: t)) f (IntKind.u64.wrap (IntKind.u64.wrap (16 * (hexN (t.take i) : Int)) + IntKind.u64.wrap t148)) (wrap64 (((i + 1 : Nat) : Int) + 1))) = Kont
    cases hx : isHex t[i] with
    | false =>
      rw [hx, if_neg Bool.false_ne_true] at hd
      rw [hd]
      have hna : t.all isHex = false := by
        cases ha : t.all isHex with
        | false => rfl
        | true => rw [List.all_eq_true.1 ha _ (List.getElem_mem hit)] at hx; cases hx
      rw [hna]
      rfl
    | true =>
      have hv := hexV_lt hx
      have hn := hexN_lt i (t.take i) (by rw [List.length_take]; omega) hall
      have hn2 : hexN (t.take i) < 1152921504606846976 := Nat.lt_of_lt_of_le hn (Nat.le_trans (Nat.pow_le_pow_right (by decide) (show i ≤ 15 by omega)) (by decide))
      clear hn
      rw [hx, if_pos rfl] at hd
      rw [hd]
      rw [Option.bind_some, Option.bind_some]
      rw [if_neg (by omega)]
      subst hKont
      have e1 : IntKind.u64.wrap (IntKind.u64.wrap (16 * (hexN (t.take i) : Int)) + IntKind.u64.wrap (hexV t[i] : Int)) = (hexN (t.take (i + 1)) : Int) := by
        rw [IntWalk.u64_in (16 * _) ⟨by omega, by omega⟩, IntWalk.u64_in (hexV t[i] : Int) ⟨by omega, by omega⟩, IntWalk.u64_in _ ⟨by omega, by omega⟩, List.take_succ_eq_append_getElem hit, hexN_snoc]
        omega
      have e2 : wrap64 (((i + 1 : Nat) : Int) + 1) = ((i + 1 + 1 : Nat) : Int) := by unfold wrap64; omega
      have ih := l0_is c t ht hk f j (i + 1) (by omega) (by rw [List.take_succ_eq_append_getElem hit, List.all_append, hall]; simp [hx])
      rw [← e1, ← e2] at ih
      exact ih
theorem bs_take (l : Tx) (n : Nat) : (bs l).extract 0 n = bs (l.take n) := by
  apply ByteArray.ext
  apply Array.ext'
  simp [bs]
theorem bs_drop (l : Tx) (n : Nat) : (bs l).extract n l.length = bs (l.drop n) := by
  apply ByteArray.ext
  apply Array.ext'
  simp [bs, List.extract_eq_take_drop]
  exact List.take_of_length_le (by simp)
theorem j2_eq (k : Nat) (x0 : ByteArray) (x6 b : Bool) : hindcastref14_Parse.j2 (k + 1) x0 x6 b = if b = true then (some (0, 0, false, false)) else (hindcastref14_Parse.l0 k x0 x6 0 1) := by
  rw [hindcastref14_Parse.j2]
theorem j1_eq (k : Nat) (x0 : ByteArray) (x6 : Bool) : hindcastref14_Parse.j1 (k + 1) x0 x6 = if x0.toList = ([109, 97, 110, 105, 102, 101, 115, 116] : List UInt8) then (some (3, 0, x6, true)) else (if (x0.size : Int) = 17 then (if 0 < (x0.size : Int) then (if (bt x0 0) = 115 then (hindcastref14_Parse.j2 k x0 x6 false) else (hindcastref14_Parse.j2 k x0 x6 ((bt x0 0) != 99))) else (none)) else (hindcastref14_Parse.j2 k x0 x6 true)) := by
  rw [hindcastref14_Parse.j1]
theorem j0_eq (k : Nat) (x0 : ByteArray) (x6 : Bool) : hindcastref14_Parse.j0 (k + 1) x0 x6 = if x6 = true then (if 0 ≤ (wrap64 ((x0.size : Int) - 4)) then (if (wrap64 ((x0.size : Int) - 4)) ≤ (x0.size : Int) then (hindcastref14_Parse.j1 k (x0.extract 0 ((wrap64 ((x0.size : Int) - 4)) : Int).toNat) x6) else (none)) else (none)) else (hindcastref14_Parse.j1 k x0 x6) := by
  rw [hindcastref14_Parse.j0]
theorem j1_is (m : Tx) (f : Bool) : hindcastref14_Parse.j1 20 (bs m) f = some (ref4 (nameOf m f)) := by
  rw [j1_eq, bs_toList, bs_size]
  by_cases hm : m = man
  · rw [if_pos (show m = [109, 97, 110, 105, 102, 101, 115, 116] from hm), nameOf, if_pos hm]; rfl
  · rw [if_neg (show ¬ m = [109, 97, 110, 105, 102, 101, 115, 116] from hm), nameOf, if_neg hm]
    by_cases h17 : m.length = 17
    · obtain ⟨c, t, rfl⟩ : ∃ c t, m = c :: t := by cases m with | nil => simp at h17 | cons c t => exact ⟨c, t, rfl⟩
      have h16 : t.length = 16 := by simpa using h17
      have h0 : bt (bs (c :: t)) 0 = (c.toNat : Int) := bt_bs (c :: t) 0 (by simp)
      rw [if_pos (by omega), if_pos (by omega), h0, j2_eq, j2_eq, if_neg Bool.false_ne_true]
      by_cases hk : kindOf (c :: t) = 0
      · have hc : c ≠ 115 ∧ c ≠ 99 := by
          constructor
          · rintro rfl; simp [kindOf] at hk
          · rintro rfl; simp [kindOf] at hk
        have hn : ∀ d : UInt8, c ≠ d → (c.toNat : Int) ≠ (d.toNat : Int) := fun d hd e => hd (UInt8.toNat_inj.1 (by omega))
        have h1 := hn 115 hc.1
        have h2 := hn 99 hc.2
        rw [if_neg (show ¬ (c.toNat : Int) = 115 from h1), if_pos (show ((c.toNat : Int) != 99) = true from by rw [bne_iff_ne]; exact h2), if_neg (fun h => h.2.2 hk)]
        rfl
      · have hl : hindcastref14_Parse.l0 18 (bs (c :: t)) f 0 1 = some (if t.all isHex then ref4 ⟨kindOf (c :: t), hexN t, f, true⟩ else ref4 none') := l0_is c t h16 hk f 16 0 rfl rfl
        have hr : some (ref4 (if (c :: t).length = 17 ∧ (c :: t).tail.all isHex = true ∧ kindOf (c :: t) ≠ 0 then ⟨kindOf (c :: t), hexN (c :: t).tail, f, true⟩ else none')) = some (if t.all isHex then ref4 ⟨kindOf (c :: t), hexN t, f, true⟩ else ref4 none') := by
          rw [List.tail_cons]
          cases t.all isHex with
          | false => rw [if_neg (fun h => by cases h.2.1)]; rfl
          | true => rw [if_pos ⟨h17, rfl, hk⟩]; rfl
        rw [hr]
        by_cases h1 : (c.toNat : Int) = 115
        · rw [if_pos h1, hl]
        · rw [if_neg h1]
          have h2 : (c.toNat : Int) = 99 := by
            by_cases e : c = 99
            · subst e; rfl
            · exfalso
              apply hk
              unfold kindOf
              rw [if_neg (fun h => h1 (by simp only [List.head?_cons, Option.some.injEq] at h; subst h; rfl)), if_neg (fun h => e (by simpa using h))]
          rw [if_neg (by rw [h2]; decide), hl]
    · rw [if_neg (by omega), j2_eq, if_pos rfl, if_neg (fun h => h17 h.1)]
      rfl
theorem ref_parse (l : Tx) (hl : l.length ≤ 4000) : hindcastref14_Parse.f 21 (bs l) = some (ref4 (parse l)) := by
  unfold hindcastref14_Parse.f parse cutNew
  rw [bs_size]
  have hw : wrap64 ((l.length : Int) - 4) = (l.length : Int) - 4 := by unfold wrap64; omega
  rw [hw]
  by_cases h4 : 4 ≤ l.length
  · have hn : ((l.length : Int) - 4).toNat = l.length - 4 := by omega
    rw [if_pos (show (l.length : Int) ≥ 4 by omega), if_pos (show 0 ≤ (l.length : Int) - 4 by omega), if_pos (show (l.length : Int) - 4 ≤ (l.length : Int) by omega), hn, bs_drop, bs_toList, j0_eq, bs_size, hw, hn, bs_take]
    by_cases hs : l.drop (l.length - 4) = suf
    · have hb : (l.drop (l.length - 4) == [46, 110, 101, 119]) = true := by rw [hs]; rfl
      rw [hb, if_pos rfl, if_pos (show 0 ≤ (l.length : Int) - 4 by omega), if_pos (show (l.length : Int) - 4 ≤ (l.length : Int) by omega), j1_is, if_pos ⟨h4, hs⟩]
    · have hb : (l.drop (l.length - 4) == [46, 110, 101, 119]) = false := by
        cases h : l.drop (l.length - 4) == [46, 110, 101, 119] with
        | false => rfl
        | true => exact absurd (eq_of_beq h) hs
      rw [hb, if_neg Bool.false_ne_true, j1_is, if_neg (fun h : 4 ≤ l.length ∧ l.drop (l.length - 4) = suf => hs h.2)]
  · rw [if_neg (show ¬ (l.length : Int) ≥ 4 by omega), j0_eq, if_neg Bool.false_ne_true, j1_is, if_neg (fun h : 4 ≤ l.length ∧ l.drop (l.length - 4) = suf => h4 h.1)]
theorem rparse_calls (w : World) (l : Tx) (hl : l.length ≤ 4000) :
    Calls Tryd.prog 6 #[.string (bs l)] w fun e w' => e = .returned (.tuple #[.int .i64 ((parse l).k : Int), .int .u64 ((parse l).n : Int), .bool (parse l).f, .bool (parse l).ok]) ∧ Below w.heap.size w w' := by
  refine (hindcastref14_Parse.calls 21 (bs l) _ _ _ _ w (ref_parse l hl)).mono ?_
  rintro e w' ⟨rfl, hd⟩
  exact ⟨rfl, hd.below⟩
end Go.Proofs.YtlfgncdneiempaaDoor.Nw
/- FormatUint of base 16 (functions 77, 72, 71, 58, 42, 28). -/
set_option linter.unusedVariables false
set_option linter.unusedSimpArgs false
namespace Go.Proofs.YtlfgncdneiempaaDoor.Nw
open Go.RowKit Go.Proofs.YtlfgncdneiempaaDoorW.PrintWords Go.Proofs.YtlfgncdneiempaaDoorW.PrintLast Go.Proofs.YtlfgncdneiempaaDoorW.PrintMore Go.Proofs.YtlfgncdneiempaaDoor.PNamesParse Go.Proofs.Nz
set_option maxRecDepth 100000
/-- What is asked of the table of trailing zeros: its place of 16. -/
def TZ (w : World) : Prop := w.cell? ⟨7, 15, none⟩ = some (.int .u8 4)
theorem tz64_calls (w : World) (h : TZ w) : Calls Tryd.prog 77 #[.int .u64 16] w fun e w' => e = .returned (.int .i64 4) ∧ w' = w := by
  have hc : w.cell? ⟨7, 15, none⟩ = some (.int .u8 4) := h
  have hw : IntKind.u64.wrap (-16) = 18446744073709551600 := by decide
  have hb : Go.bits .and .u64 16 18446744073709551600 = 16 := by decide
  have hm : IntKind.u64.wrap 4573923408821661840 = 4573923408821661840 := by decide
  go_enter Tryd.func77, Tryd.ntmps77
  go_wp2
  go_ret
  exact ⟨rfl, rfl⟩
theorem tz_calls (w : World) (h : TZ w) : Calls Tryd.prog 72 #[.int .u64 16] w fun e w' => e = .returned (.int .i64 4) ∧ w' = w := by
  go_enter Tryd.func72, Tryd.ntmps72
  go_wp2_with (first | (go_at_call 77; refine (tz64_calls _ h).mono ?_; rintro e w' ⟨rfl, hw'⟩; obtain rfl := hw'.symm))
  go_ret
  exact ⟨rfl, rfl⟩
theorem pow2_calls (w : World) : Calls Tryd.prog 71 #[.int .i64 16] w fun e w' => e = .returned (.bool true) ∧ w' = w := by
  have hb : Go.bits .and .i64 16 15 = 0 := by decide
  go_enter Tryd.func71, Tryd.ntmps71
  go_wp2
  go_ret
  exact ⟨rfl, rfl⟩
def dg (n : Nat) : UInt8 := UInt8.ofNat (if n < 10 then 48 + n else 87 + n)
/-- A number's hex digits, without zeros ahead, in front of others. -/
def hexR (u : Nat) (S : Tx) : Tx := if h : u < 16 then dg u :: S else hexR (u / 16) (dg (u % 16) :: S)
  termination_by u
  decreasing_by omega
theorem hexR_lt {u : Nat} (h : u < 16) (S : Tx) : hexR u S = dg u :: S := by rw [hexR, dif_pos h]
theorem hexR_ge {u : Nat} (h : 16 ≤ u) (S : Tx) : hexR u S = hexR (u / 16) (dg (u % 16) :: S) := by rw [hexR, dif_neg (by omega)]
def digB : ByteArray := ⟨#[48, 49, 50, 51, 52, 53, 54, 55, 56, 57, 97, 98, 99, 100, 101, 102, 103, 104, 105, 106, 107, 108, 109, 110, 111, 112, 113, 114, 115, 116, 117, 118, 119, 120, 121, 122]⟩
theorem digB_size : digB.size = 36 := rfl
theorem dig_all : ∀ i : Fin 16, digB.data.getD i.val 0 = dg i.val := by decide
theorem dig_at (d : Nat) (h : d < 16) (h2 : d < digB.size) : (digB[d]'h2) = dg d := by
  have h3 := dig_all ⟨d, h⟩
  rw [Array.getD_eq_getD_getElem?, Array.getElem?_eq_getElem (show d < digB.data.size from h2)] at h3
  exact h3
/-- The buffer, its digits from place p on. -/
structure Buf (w wr : World) (b p : Nat) (S : Tx) : Prop where
  le : p ≤ 65
  len : S.length = 65 - p
  row : ∃ cs, wr.heap[b]? = some (.cells cs 100) ∧ cs.size = 65 ∧ ∀ (j : Nat) (h : j < S.length), cs[p + j]? = some (.int .u8 ((S[j]).toNat : Int))
  below : Below w.heap.size w wr
theorem Buf.push {w wr : World} {b p : Nat} {S : Tx} (h : Buf w wr b p S) (hp : 1 ≤ p) (hb : w.heap.size ≤ b) (d : UInt8) : Buf w (wr.setCell ⟨b, p - 1, none⟩ (.int .u8 (d.toNat : Int))) b (p - 1) (d :: S) := by
  obtain ⟨cs, h1, h2, h3⟩ := h.row
  refine ⟨by have := h.le; omega, by have := h.le; have := h.len; rw [List.length_cons]; omega, ⟨cs.setIfInBounds (p - 1) (.int .u8 (d.toNat : Int)), Go.Joins.block_setCell h1 .., by rw [Array.size_setIfInBounds]; exact h2, fun j hj => ?_⟩, h.below.setCell (p := ⟨b, p - 1, none⟩) hb _⟩
  rcases j with _ | j
  · rw [Nat.add_zero, Array.getElem?_setIfInBounds_self_of_lt (by have := h.le; omega)]
    rfl
  · rw [Array.getElem?_setIfInBounds_ne (by omega), show p - 1 + (j + 1) = p + j by omega]
    exact h3 j (by simpa using hj)
theorem Buf.cell {w wr : World} {b p : Nat} {S : Tx} (h : Buf w wr b p S) (hp : 1 ≤ p) : (∃ x, wr.cell? ⟨b, p - 1, none⟩ = some x) ∧ wr.frozen? ⟨b, p - 1, none⟩ = false := by
  obtain ⟨cs, h1, h2, _⟩ := h.row
  have hlt : p - 1 < cs.size := by have := h.le; omega
  refine ⟨⟨cs[p - 1], ?_⟩, ?_⟩
  · unfold World.cell?
    rw [h1]
    simp [hlt]
  · unfold World.frozen?
    rw [h1]
    simp
theorem Buf.bytes {w wr : World} {b p : Nat} {S : Tx} (h : Buf w wr b p S) (cap : Nat) : (convert 48 9 (.slice (some ⟨b, p, none⟩) S.length cap)).run Tryd.prog wr = .ok (.string (bs S)) wr := by
  obtain ⟨cs, h1, h2, h3⟩ := h.row
  refine run_convert_bytes_back (P := Tryd.prog) wr 48 9 5 ⟨b, p, none⟩ cap S Tryd.underlying48 Tryd.underlying5 Tryd.underlying9 (fun j hj => ?_)
  rw [show (⟨b, p, none⟩ : Addr).add j = ⟨b, p + j, none⟩ by unfold Addr.add; split <;> simp_all]
  unfold World.cell?
  rw [h1]
  simp [h3 j hj]
theorem buf_new (w : World) : Buf w (w.alloc (.cells Tryd.zeroCells100 100)) w.heap.size 65 [] :=
  ⟨Nat.le_refl _, rfl, ⟨Tryd.zeroCells100, heap_alloc_new w _, by kernel_rfl, fun j h => by cases h⟩, (Below.refl _ w).alloc (Nat.le_refl _) _⟩
theorem pow_step {cur p : Nat} (h50 : 50 ≤ p) (h : cur < 16 ^ (p - 49)) (hge : 16 ≤ cur) : 50 ≤ p - 1 ∧ cur / 16 < 16 ^ (p - 1 - 49) := by
  by_cases hp : p = 50
  · subst hp
    exfalso
    have : (16 : Nat) ^ (50 - 49) = 16 := by decide
    omega
  · refine ⟨by omega, ?_⟩
    have e : p - 49 = (p - 1 - 49) + 1 := by omega
    rw [e, Nat.pow_succ] at h
    exact Nat.div_lt_of_lt_mul (by rw [Nat.mul_comm]; exact h)
theorem pow_le {cur p : Nat} (hp : p ≤ 65) (h : cur < 16 ^ (p - 49)) : cur < 18446744073709551616 :=
  Nat.lt_of_lt_of_le h (Nat.le_trans (Nat.pow_le_pow_right (by decide) (show p - 49 ≤ 16 by omega)) (by decide))
theorem and15 {cur : Nat} (h : cur < 18446744073709551616) : Go.bits .and .u64 (cur : Int) 15 = ((cur % 16 : Nat) : Int) := by
  have h1 := bits_and_u64_nat cur 15 h (by decide)
  rw [show ((15 : Nat) : Int) = 15 from rfl] at h1
  rw [h1, show (15 : Nat) = 2 ^ 4 - 1 from rfl, Nat.and_two_pow_sub_one_eq_mod]
theorem al100 : Tryd.prog.arrayLen 100 = 65 := by kernel_rfl
theorem slice_at (W : World) (b l : Nat) (h : l ≤ 64) (x : Int) (hx : x = (l : Int)) : (Instr.sliceAt 100 (.pointer (some ⟨b, 0, none⟩)) (some (.int .i64 x)) none none).run Tryd.prog W = .ok (.slice (some ⟨b, l, none⟩) (65 - l) (65 - l)) W := by
  subst hx
  have hs : (sizeOf (Tryd.prog.elem 100)).run Tryd.prog W = .ok 1 W := by kernel_rfl
  rw [run_sliceAt_array_l W 100 ⟨b, 0, none⟩ (by kernel_rfl) .i64 _ (by omega) (by rw [al100]; omega), hs, al100]
  show Result.ok (slicedAt ⟨b, 0, none⟩ ((l : Int).toNat) 65 65 1) W = _
  unfold slicedAt
  rw [Int.toNat_natCast, if_neg (by omega), Nat.mul_one, show (⟨b, 0, none⟩ : Addr).add l = ⟨b, l, none⟩ by unfold Addr.add; split <;> simp_all]
set_option maxHeartbeats 2000000 in
theorem formatBits_calls (w : World) (hT : TZ w) (u : Nat) (hu : u < 18446744073709551616) :
    Calls Tryd.prog 58 #[.slice none 0 0, .int .u64 (u : Int), .int .i64 16, .bool false, .bool false] w fun e w' => e = .returned (.tuple #[.slice none 0 0, .string (bs (hexR u []))]) ∧ Below w.heap.size w w' := by
  have HT := Lib.hid hT
  clear hT
  go_enter Tryd.func58, Tryd.ntmps58
  go_wp2_with fail
  refine (pow2_calls _).mono ?_
  rintro e w' ⟨rfl, hw'⟩
  obtain rfl := hw'.symm
  go_wp2_with fail
  have HN := Lib.hid (buf_new w)
  refine (tz_calls _ (cell_below HT.out HN.out.below)).mono ?_
  rintro e w' ⟨rfl, hw'⟩
  obtain rfl := hw'.symm
  clear hw'
  go_wp2_with fail
  go_loopw [1, 13] (fun t1 t13 wr => ∃ (cur p : Nat) (S : Tx), t1 = .int .u64 (cur : Int) ∧ t13 = .int .i64 (p : Int) ∧ 50 ≤ p ∧ RowKit.Hid (cur < 16 ^ (p - 49)) ∧ hexR cur S = hexR u [] ∧ Buf w wr w.heap.size p S) (fun t1 _ _ => (intOf t1).toNat)
  case atStart => exact ⟨u, 65, [], rfl, rfl, by decide, by exact Nat.lt_of_lt_of_le hu (by decide), rfl, HN.out⟩
  case round =>
    obtain ⟨cur, p, S, rfl, rfl, h50, hcur, hhx, hbuf⟩ := hrel
    have HB := Lib.hid hbuf
    have HH := Lib.hid hhx
    have hp65 := hbuf.le
    have hc64 := pow_le hp65 hcur
    have HCur := Lib.hid hcur
    obtain ⟨⟨x0, hx0⟩, hfz⟩ := hbuf.cell (by omega)
    clear hbuf hhx hcur
    have hp1 : ((p : Int) - 1).toNat = p - 1 := by omega
    by_cases hge : 16 ≤ cur
    · have dge : decide ((16 : Int) ≤ (cur : Int)) = true := decide_eq_true (by omega)
      have hand := and15 hc64
      have hq16 : cur % 16 < 16 := by omega
      have hq36 : cur % 16 < digB.size := by rw [digB_size]; omega
      have HP := Lib.hid (HB.out.push (by omega) (Nat.le_refl _) (digB[cur % 16]'hq36))
      have HD := Lib.hid (dig_at (cur % 16) hq16 hq36)
      go_wp2_with fail
      refine ⟨⟨cur / 16, p - 1, (digB[cur % 16]'hq36) :: S, by go_num, by go_num, (pow_step h50 HCur.out hge).1, (pow_step h50 HCur.out hge).2, by rw [HD.out, ← hexR_ge hge, HH.out], HP.out⟩, ?_⟩
      simp [intOf]
      omega
    · have dge : decide ((16 : Int) ≤ (cur : Int)) = false := decide_eq_false (by omega)
      have hq36 : cur < digB.size := by rw [digB_size]; omega
      have HP := Lib.hid (HB.out.push (by omega) (Nat.le_refl _) (digB[cur]'hq36))
      have HD := Lib.hid (dig_at cur (by omega) hq36)
      have hsl := fun W => slice_at W w.heap.size (p - 1) (by omega) ((p : Int) - 1) (by omega)
      have hlS := HB.out.len
      have hcv := HP.out.bytes (65 - (p - 1))
      rw [show ((digB[cur]'hq36) :: S).length = 65 - (p - 1) by rw [List.length_cons]; omega] at hcv
      have HR := Lib.hid (show bs ((digB[cur]'hq36) :: S) = bs (hexR u []) by rw [HD.out, ← hexR_lt (by omega), HH.out])
      rw [HR.out] at hcv
      dsimp only [digB] at hcv
      have HCV := Lib.hid hcv
      clear hcv
      go_wp2_with fail
      erw [HCV.out]
      go_wp2_with fail
      go_ret2
      exact ⟨rfl, HP.out.below⟩
end Go.Proofs.YtlfgncdneiempaaDoor.Nw
/- FormatUint, named, Segment, Check, is, no, works, NamesParse (functions 42, 28, 16, 7, 8, 9, 10, 4, 3). -/
set_option linter.unusedVariables false
set_option linter.unusedSimpArgs false
namespace Go.Proofs.YtlfgncdneiempaaDoor.Nw
open Go.RowKit Go.Proofs.YtlfgncdneiempaaDoorW.PrintWords Go.Proofs.YtlfgncdneiempaaDoorW.PrintLast Go.Proofs.YtlfgncdneiempaaDoorW.PrintMore Go.Proofs.YtlfgncdneiempaaDoor.PNamesParse Go.Proofs.Nz
set_option maxRecDepth 100000
theorem TZ.below {w w' : World} (h : TZ w) (hB : Below w.heap.size w w') : TZ w' := cell_below h hB
theorem ifmt_calls (w : World) (hT : TZ w) (u : Nat) (hu : u < 18446744073709551616) : Calls Tryd.prog 42 #[.int .u64 (u : Int), .int .i64 16] w fun e w' => e = .returned (.string (bs (hexR u []))) ∧ Below w.heap.size w w' := by
  have HF := Lib.hid (formatBits_calls w hT u hu)
  clear hT
  go_enter Tryd.func42, Tryd.ntmps42
  go_wp2_with fail
  refine HF.out.mono ?_
  rintro e w2 ⟨rfl, hB⟩
  have HB := Lib.hid hB
  clear hB
  go_wp2_with fail
  go_ret
  exact ⟨rfl, HB.out⟩
theorem fmt_calls (w : World) (hT : TZ w) (u : Nat) (hu : u < 18446744073709551616) : Calls Tryd.prog 28 #[.int .u64 (u : Int), .int .i64 16] w fun e w' => e = .returned (.string (bs (hexR u []))) ∧ Below w.heap.size w w' := by
  have HF := Lib.hid (ifmt_calls w hT u hu)
  clear hT
  go_enter Tryd.func28, Tryd.ntmps28
  go_wp2_with fail
  refine HF.out.mono ?_
  rintro e w2 ⟨rfl, hB⟩
  have HB := Lib.hid hB
  clear hB
  go_wp2_with fail
  go_ret
  exact ⟨rfl, HB.out⟩
theorem repeatL_one (c : UInt8) : ∀ n, Lib.repeatL [c] n = List.replicate n c
  | 0 => rfl
  | n + 1 => by rw [Lib.repeatL, repeatL_one c n]; rfl
theorem repeat_calls (w : World) (n : Nat) (hn : n ≤ 100) : Calls Tryd.prog 29 #[.string ⟨#[48]⟩, .int .i64 n] w fun e w' => e = .returned (.string (bs (List.replicate n 48))) ∧ Below w.heap.size w w' := by
  refine (Tryd.strings_Repeat (bs [48]) n w (by omega) (by rw [bs_size]; simp; omega)).mono ?_
  rintro e w' ⟨rfl, hB⟩
  rw [bs_list, repeatL_one]
  exact ⟨rfl, hB⟩
theorem cat_bs (a b : Tx) : bs a ++ bs b = bs (a ++ b) := by
  apply ByteArray.ext
  apply Array.ext'
  simp [bs]
theorem one_cell (w : World) (c : UInt8) : (w.alloc (.cells #[.int .u8 (c.toNat : Int)] 5)).cell? ⟨w.heap.size, 0, none⟩ = some (.int .u8 (c.toNat : Int)) := by
  have hn := heap_alloc_new w (.cells #[.int .u8 (c.toNat : Int)] 5)
  unfold World.cell?
  rw [hn]
  rfl
theorem conv_at {w : World} {b : Nat} {c : UInt8} (h : w.cell? ⟨b, 0, none⟩ = some (.int .u8 (c.toNat : Int))) : (convert 48 9 (.slice (some ⟨b, 0, none⟩) 1 1)).run Tryd.prog w = .ok (.string (bs [c])) w := by
  refine run_convert_bytes_back (P := Tryd.prog) w 48 9 5 ⟨b, 0, none⟩ 1 [c] Tryd.underlying48 Tryd.underlying5 Tryd.underlying9 (fun j hj => ?_)
  have hj2 : j < 1 := by simpa using hj
  obtain rfl : j = 0 := by omega
  exact h
theorem conv_one (w : World) (c : UInt8) : (convert 48 9 (.slice (some ⟨w.heap.size, 0, none⟩) 1 1)).run Tryd.prog (w.alloc (.cells #[.int .u8 (c.toNat : Int)] 5)) = .ok (.string (bs [c])) (w.alloc (.cells #[.int .u8 (c.toNat : Int)] 5)) := conv_at (one_cell w c)
theorem conv_below {w w' : World} {b : Nat} {c : UInt8} (h : w.cell? ⟨b, 0, none⟩ = some (.int .u8 (c.toNat : Int))) (hB : Below w.heap.size w w') : (convert 48 9 (.slice (some ⟨b, 0, none⟩) 1 1)).run Tryd.prog w' = .ok (.string (bs [c])) w' := conv_at (cell_below h hB)
set_option maxHeartbeats 2000000 in
theorem named_calls (w : World) (hT : TZ w) (c : UInt8) (hc : c.toNat < 128) (u : Nat) (hu : u < 18446744073709551616) (hl : (hexR u []).length ≤ 16) : Calls Tryd.prog 16 #[.int .i32 (c.toNat : Int), .int .u64 (u : Int)] w fun e w' => e = .returned (.string (bs (c :: (List.replicate (16 - (hexR u []).length) 48 ++ hexR u [])))) ∧ Below w.heap.size w w' := by
  have HF := Lib.hid (fmt_calls w hT u hu)
  clear hT
  go_enter Tryd.func16, Tryd.ntmps16
  go_wp2_with fail
  refine HF.out.mono ?_
  rintro e w2 ⟨rfl, hB⟩
  have HB0 := Lib.hid hB
  clear hB HF
  generalize hS : hexR u [] = S at *
  have HS := Lib.hid hS
  clear hS
  have hsz := bs_size S
  have hcw : IntKind.u8.wrap (c.toNat : Int) = (c.toNat : Int) := IntWalk.u8_in _ ⟨by omega, by omega⟩
  have hsub : (16 : Int) - (S.length : Int) = ((16 - S.length : Nat) : Int) := by omega
  have hw64 : wrap64 ((16 - S.length : Nat) : Int) = ((16 - S.length : Nat) : Int) := by unfold wrap64; omega
  have hrl : (List.replicate (16 - S.length) (48 : UInt8)).length = 16 - S.length := List.length_replicate
  generalize hR : List.replicate (16 - S.length) (48 : UInt8) = R at *
  have HR := Lib.hid hR
  clear hR
  have hcat1 : bs [c] ++ bs R = bs (c :: R) := cat_bs [c] R
  have hcat2 : bs (c :: R) ++ bs S = bs (c :: (R ++ S)) := cat_bs (c :: R) S
  have hn1 : ¬ 9223372036854775807 < (bs [c]).size + (bs R).size := by rw [bs_size, bs_size, hrl]; simp; omega
  have hn3 : ¬ 9223372036854775807 < (bs (c :: R)).size + S.length := by rw [bs_size, List.length_cons, hrl]; omega
  have HRp := Lib.hid (fun W => show Calls Tryd.prog 29 #[.string ⟨#[48]⟩, .int .i64 (wrap64 ((16 - S.length : Nat) : Int))] W _ by rw [hw64]; exact repeat_calls W (16 - S.length) (by omega))
  have hn2 : ¬ 9223372036854775807 < (bs (c :: R)).size + (bs S).size := by rw [bs_size, bs_size, List.length_cons, hrl]; omega
  go_wp2_with fail
  refine start_ (n := 12) (S := (fun w' => Below w2.heap.size w2 w')) (ds := []) #[false, false, false, false, false, false, false, false, false, false, false, false] (by kernel_rfl) rfl rfl (Below.refl _ _).drew (fun hHeld => ?_)
  have HBd := Lib.hid (show Below w2.heap.size w2 w2.drew from (Below.refl _ _).drew)
  generalize w2.drew = wd at *
  refine pure_ (i := 0) (N := some 8) (v := ?_) (a' := ?_) #[true, false, false, false, false, false, false, false, false, false, false, false] rfl rfl (by kernel_rfl) (fun _ _ _ h => h) (Or.inl ⟨by rfl, ?_⟩) ?_ ?_
  rotate_left
  · intro w'
    go_simp
    with_reducible rfl
  rotate_left
  · simp only [Act.put, List.setIfInBounds_toArray, List.set_cons_zero, List.set_cons_succ, i64_w, i32_w]
    rfl
  refine pure_ (i := 1) (N := some 9) (v := ?_) (a' := ?_) #[true, true, false, false, false, false, false, false, false, false, false, false] rfl rfl (by kernel_rfl) (fun _ _ _ h => h) (Or.inl ⟨by rfl, ?_⟩) ?_ ?_
  rotate_left
  · intro w'
    go_simp
    with_reducible rfl
  rotate_left
  · simp only [Act.put, List.setIfInBounds_toArray, List.set_cons_zero, List.set_cons_succ, i64_w, i32_w]
    rfl
  refine pure_ (i := 4) (N := some 12) (v := ?_) (a' := ?_) #[true, true, false, false, true, false, false, false, false, false, false, false] rfl rfl (by kernel_rfl) (fun _ _ _ h => h) (Or.inl ⟨by rfl, ?_⟩) ?_ ?_
  rotate_left
  · intro w'
    go_simp
    with_reducible rfl
  rotate_left
  · simp only [Act.put, List.setIfInBounds_toArray, List.set_cons_zero, List.set_cons_succ, i64_w, i32_w]
    rfl
  refine pure_ (i := 5) (N := some 13) (v := ?_) (a' := ?_) #[true, true, false, false, true, true, false, false, false, false, false, false] rfl rfl (by kernel_rfl) (fun _ _ _ h => h) (Or.inl ⟨by rfl, ?_⟩) ?_ ?_
  rotate_left
  · intro w'
    go_simp
    with_reducible rfl
  rotate_left
  · simp only [Act.put, List.setIfInBounds_toArray, List.set_cons_zero, List.set_cons_succ, i64_w, i32_w]
    rfl
  refine pure_ (i := 6) (N := some 14) (v := ?_) (a' := ?_) #[true, true, false, false, true, true, true, false, false, false, false, false] rfl rfl (by kernel_rfl) (fun _ _ _ h => h) (Or.inl ⟨by rfl, ?_⟩) ?_ ?_
  rotate_left
  · intro w'
    go_simp
    with_reducible rfl
  rotate_left
  · simp only [Act.put, List.setIfInBounds_toArray, List.set_cons_zero, List.set_cons_succ, i64_w, i32_w]
    rfl
  refine pure_ (i := 9) (N := some 17) (v := ?_) (a' := ?_) #[true, true, false, false, true, true, true, false, false, true, false, false] rfl rfl (by kernel_rfl) (fun _ _ _ h => h) (Or.inl ⟨by rfl, ?_⟩) ?_ ?_
  rotate_left
  · intro w'
    go_simp
    with_reducible rfl
  rotate_left
  · simp only [Act.put, List.setIfInBounds_toArray, List.set_cons_zero, List.set_cons_succ, i64_w, i32_w]
    rfl
  refine two_ (i := 2) (j := 7) (Ni := some 10) (Nj := some 15) #[true, true, true, false, true, true, true, false, false, true, false, false] #[true, true, false, false, true, true, true, true, false, true, false, false] rfl rfl rfl rfl (by kernel_rfl) (by decide) (by decide) (fun K hK => ?_) (fun K hK => ?_)
  · have HBs := Lib.hid (HBd.out.alloc HBd.out.size (.cells #[.int .u8 (c.toNat : Int)] 5))
    have hcv := conv_one wd c
    refine value_ (w1 := ?_) (v := ?_) (by rfl) rfl ?_ ?_
    rotate_left 2
    · go_simp
      constructor
      · rfl
      · rfl
    refine hK.out _ _ (HBs.out) (fun hHeld => ?_)
    clear hK K
    refine norm_ (a' := ?_) ?_ ?_
    rotate_left
    · show Act.put _ (some 10) _ = _
      simp only [Act.put, List.setIfInBounds_toArray, List.set_cons_zero, List.set_cons_succ, i64_w, i32_w]
      rfl
    refine two_ (i := 3) (j := 7) (Ni := some 11) (Nj := some 15) #[true, true, true, true, true, true, true, false, false, true, false, false] #[true, true, true, false, true, true, true, true, false, true, false, false] rfl rfl rfl rfl (by kernel_rfl) (by decide) (by decide) (fun K hK => ?_) (fun K hK => ?_)
    · refine value_ (w1 := ?_) (v := ?_) (by rfl) rfl ?_ ?_
      rotate_left 2
      · go_simp
        constructor
        · rfl
        · rfl
      refine hK.out _ _ (HBs.out) (fun hHeld => ?_)
      clear hK K
      refine norm_ (a' := ?_) ?_ ?_
      rotate_left
      · show Act.put _ (some 11) _ = _
        simp only [Act.put, List.setIfInBounds_toArray, List.set_cons_zero, List.set_cons_succ, i64_w, i32_w]
        rfl
      refine one_ (i := 7) (N := some 15) #[true, true, true, true, true, true, true, true, false, true, false, false] rfl rfl (by kernel_rfl) (by decide) (fun K hK => ?_)
      refine goes_ Tryd.func29 (by kernel_rfl) rfl #[.string ⟨#[48]⟩, .int .i64 (wrap64 ((16 - S.length : Nat) : Int))] (by rfl) rfl rfl (by simp only [List.map_toArray, List.map_cons, List.map_nil]; rfl) ?_
      refine (HRp.out _).mono ?_
      rintro e w5 ⟨rfl, hBx⟩
      rw [HR.out]
      have HBr := Lib.hid (HBs.out.trans (hBx.mono HBs.out.size))
      clear hBx
      refine ⟨_, rfl, ?_⟩
      refine hK.out _ _ (HBr.out) (fun hHeld => ?_)
      clear hK K
      refine norm_ (a' := ?_) ?_ ?_
      rotate_left
      · show Act.put _ (some 15) _ = _
        simp only [Act.put, List.setIfInBounds_toArray, List.set_cons_zero, List.set_cons_succ, i64_w, i32_w]
        rfl
      refine pure_ (i := 8) (N := some 16) (v := ?_) (a' := ?_) #[true, true, true, true, true, true, true, true, true, true, false, false] rfl rfl (by kernel_rfl) (fun _ _ _ h => h) (Or.inl ⟨by rfl, ?_⟩) ?_ ?_
      rotate_left
      · intro w'
        go_simp
        with_reducible rfl
      rotate_left
      · simp only [Act.put, List.setIfInBounds_toArray, List.set_cons_zero, List.set_cons_succ, i64_w, i32_w]
        rfl
      refine pure_ (i := 10) (N := some 18) (v := ?_) (a' := ?_) #[true, true, true, true, true, true, true, true, true, true, true, false] rfl rfl (by kernel_rfl) (fun _ _ _ h => h) (Or.inl ⟨by rfl, ?_⟩) ?_ ?_
      rotate_left
      · intro w'
        go_simp
        with_reducible rfl
      rotate_left
      · simp only [Act.put, List.setIfInBounds_toArray, List.set_cons_zero, List.set_cons_succ, i64_w, i32_w]
        rfl
      refine pure_ (i := 11) (N := some 4) (v := ?_) (a' := ?_) #[true, true, true, true, true, true, true, true, true, true, true, true] rfl rfl (by kernel_rfl) (fun _ _ _ h => h) (Or.inl ⟨by rfl, ?_⟩) ?_ ?_
      rotate_left
      · intro w'
        go_simp
        with_reducible rfl
      rotate_left
      · simp only [Act.put, List.setIfInBounds_toArray, List.set_cons_zero, List.set_cons_succ, i64_w, i32_w]
        rfl
      refine done_ (by kernel_rfl) ?_
      have HZ := Lib.hid HBr.out
      go_wp2_with fail
      go_ret
      exact ⟨by rw [HS.out, HR.out]; rfl, HB0.out.trans (HZ.out.mono HB0.out.size)⟩
    · have hone := one_cell wd c
      refine goes_ Tryd.func29 (by kernel_rfl) rfl #[.string ⟨#[48]⟩, .int .i64 (wrap64 ((16 - S.length : Nat) : Int))] (by rfl) rfl rfl (by simp only [List.map_toArray, List.map_cons, List.map_nil]; rfl) ?_
      refine (HRp.out _).mono ?_
      rintro e w5 ⟨rfl, hBx⟩
      rw [HR.out]
      have HBr := Lib.hid (HBs.out.trans (hBx.mono HBs.out.size))
      have hcv := conv_below hone hBx
      clear hBx
      refine ⟨_, rfl, ?_⟩
      refine hK.out _ _ (HBr.out) (fun hHeld => ?_)
      clear hK K
      refine norm_ (a' := ?_) ?_ ?_
      rotate_left
      · show Act.put _ (some 15) _ = _
        simp only [Act.put, List.setIfInBounds_toArray, List.set_cons_zero, List.set_cons_succ, i64_w, i32_w]
        rfl
      refine one_ (i := 3) (N := some 11) #[true, true, true, true, true, true, true, true, false, true, false, false] rfl rfl (by kernel_rfl) (by decide) (fun K hK => ?_)
      refine value_ (w1 := ?_) (v := ?_) (by rfl) rfl ?_ ?_
      rotate_left 2
      · go_simp
        constructor
        · rfl
        · rfl
      refine hK.out _ _ (HBr.out) (fun hHeld => ?_)
      clear hK K
      refine norm_ (a' := ?_) ?_ ?_
      rotate_left
      · show Act.put _ (some 11) _ = _
        simp only [Act.put, List.setIfInBounds_toArray, List.set_cons_zero, List.set_cons_succ, i64_w, i32_w]
        rfl
      refine pure_ (i := 8) (N := some 16) (v := ?_) (a' := ?_) #[true, true, true, true, true, true, true, true, true, true, false, false] rfl rfl (by kernel_rfl) (fun _ _ _ h => h) (Or.inl ⟨by rfl, ?_⟩) ?_ ?_
      rotate_left
      · intro w'
        go_simp
        with_reducible rfl
      rotate_left
      · simp only [Act.put, List.setIfInBounds_toArray, List.set_cons_zero, List.set_cons_succ, i64_w, i32_w]
        rfl
      refine pure_ (i := 10) (N := some 18) (v := ?_) (a' := ?_) #[true, true, true, true, true, true, true, true, true, true, true, false] rfl rfl (by kernel_rfl) (fun _ _ _ h => h) (Or.inl ⟨by rfl, ?_⟩) ?_ ?_
      rotate_left
      · intro w'
        go_simp
        with_reducible rfl
      rotate_left
      · simp only [Act.put, List.setIfInBounds_toArray, List.set_cons_zero, List.set_cons_succ, i64_w, i32_w]
        rfl
      refine pure_ (i := 11) (N := some 4) (v := ?_) (a' := ?_) #[true, true, true, true, true, true, true, true, true, true, true, true] rfl rfl (by kernel_rfl) (fun _ _ _ h => h) (Or.inl ⟨by rfl, ?_⟩) ?_ ?_
      rotate_left
      · intro w'
        go_simp
        with_reducible rfl
      rotate_left
      · simp only [Act.put, List.setIfInBounds_toArray, List.set_cons_zero, List.set_cons_succ, i64_w, i32_w]
        rfl
      refine done_ (by kernel_rfl) ?_
      have HZ := Lib.hid HBr.out
      go_wp2_with fail
      go_ret
      exact ⟨by rw [HS.out, HR.out]; rfl, HB0.out.trans (HZ.out.mono HB0.out.size)⟩
  · refine goes_ Tryd.func29 (by kernel_rfl) rfl #[.string ⟨#[48]⟩, .int .i64 (wrap64 ((16 - S.length : Nat) : Int))] (by rfl) rfl rfl (by simp only [List.map_toArray, List.map_cons, List.map_nil]; rfl) ?_
    refine (HRp.out _).mono ?_
    rintro e w5 ⟨rfl, hBx⟩
    rw [HR.out]
    have HBr := Lib.hid (HBd.out.trans (hBx.mono HBd.out.size))
    clear hBx
    refine ⟨_, rfl, ?_⟩
    refine hK.out _ _ (HBr.out) (fun hHeld => ?_)
    clear hK K
    refine norm_ (a' := ?_) ?_ ?_
    rotate_left
    · show Act.put _ (some 15) _ = _
      simp only [Act.put, List.setIfInBounds_toArray, List.set_cons_zero, List.set_cons_succ, i64_w, i32_w]
      rfl
    refine one_ (i := 2) (N := some 10) #[true, true, true, false, true, true, true, true, false, true, false, false] rfl rfl (by kernel_rfl) (by decide) (fun K hK => ?_)
    have HBs := Lib.hid (HBr.out.alloc HBr.out.size (.cells #[.int .u8 (c.toNat : Int)] 5))
    have hcv := conv_one w5 c
    refine value_ (w1 := ?_) (v := ?_) (by rfl) rfl ?_ ?_
    rotate_left 2
    · go_simp
      constructor
      · rfl
      · rfl
    refine hK.out _ _ (HBs.out) (fun hHeld => ?_)
    clear hK K
    refine norm_ (a' := ?_) ?_ ?_
    rotate_left
    · show Act.put _ (some 10) _ = _
      simp only [Act.put, List.setIfInBounds_toArray, List.set_cons_zero, List.set_cons_succ, i64_w, i32_w]
      rfl
    refine one_ (i := 3) (N := some 11) #[true, true, true, true, true, true, true, true, false, true, false, false] rfl rfl (by kernel_rfl) (by decide) (fun K hK => ?_)
    refine value_ (w1 := ?_) (v := ?_) (by rfl) rfl ?_ ?_
    rotate_left 2
    · go_simp
      constructor
      · rfl
      · rfl
    refine hK.out _ _ (HBs.out) (fun hHeld => ?_)
    clear hK K
    refine norm_ (a' := ?_) ?_ ?_
    rotate_left
    · show Act.put _ (some 11) _ = _
      simp only [Act.put, List.setIfInBounds_toArray, List.set_cons_zero, List.set_cons_succ, i64_w, i32_w]
      rfl
    refine pure_ (i := 8) (N := some 16) (v := ?_) (a' := ?_) #[true, true, true, true, true, true, true, true, true, true, false, false] rfl rfl (by kernel_rfl) (fun _ _ _ h => h) (Or.inl ⟨by rfl, ?_⟩) ?_ ?_
    rotate_left
    · intro w'
      go_simp
      with_reducible rfl
    rotate_left
    · simp only [Act.put, List.setIfInBounds_toArray, List.set_cons_zero, List.set_cons_succ, i64_w, i32_w]
      rfl
    refine pure_ (i := 10) (N := some 18) (v := ?_) (a' := ?_) #[true, true, true, true, true, true, true, true, true, true, true, false] rfl rfl (by kernel_rfl) (fun _ _ _ h => h) (Or.inl ⟨by rfl, ?_⟩) ?_ ?_
    rotate_left
    · intro w'
      go_simp
      with_reducible rfl
    rotate_left
    · simp only [Act.put, List.setIfInBounds_toArray, List.set_cons_zero, List.set_cons_succ, i64_w, i32_w]
      rfl
    refine pure_ (i := 11) (N := some 4) (v := ?_) (a' := ?_) #[true, true, true, true, true, true, true, true, true, true, true, true] rfl rfl (by kernel_rfl) (fun _ _ _ h => h) (Or.inl ⟨by rfl, ?_⟩) ?_ ?_
    rotate_left
    · intro w'
      go_simp
      with_reducible rfl
    rotate_left
    · simp only [Act.put, List.setIfInBounds_toArray, List.set_cons_zero, List.set_cons_succ, i64_w, i32_w]
      rfl
    refine done_ (by kernel_rfl) ?_
    have HZ := Lib.hid HBs.out
    go_wp2_with fail
    go_ret
    exact ⟨by rw [HS.out, HR.out]; rfl, HB0.out.trans (HZ.out.mono HB0.out.size)⟩
def nameN (c : UInt8) (u : Nat) : Tx := c :: (List.replicate (16 - (hexR u []).length) 48 ++ hexR u [])
theorem hex258 : hexR 258 [] = [49, 48, 50] := by rw [hexR_ge (by decide), hexR_ge (by decide), hexR_lt (by decide)]; decide
theorem hexMax : hexR 18446744073709551615 [] = List.replicate 16 102 := by
  iterate 15 rw [hexR_ge (by decide)]
  rw [hexR_lt (by decide)]
  decide
theorem segment_calls (w : World) (hT : TZ w) (u : Nat) (hu : u < 18446744073709551616) (hl : (hexR u []).length ≤ 16) : Calls Tryd.prog 7 #[.int .u64 (u : Int)] w fun e w' => e = .returned (.string (bs (nameN 115 u))) ∧ Below w.heap.size w w' := by
  have HF := Lib.hid (show Calls Tryd.prog 16 #[.int .i32 115, .int .u64 (u : Int)] w _ from named_calls w hT 115 (by decide) u hu hl)
  clear hT
  go_enter Tryd.func7, Tryd.ntmps7
  go_wp2_with fail
  refine HF.out.mono ?_
  rintro e w2 ⟨rfl, hB⟩
  have HB := Lib.hid hB
  clear hB
  go_wp2_with fail
  go_ret
  exact ⟨rfl, HB.out⟩
theorem check_calls (w : World) (hT : TZ w) (u : Nat) (hu : u < 18446744073709551616) (hl : (hexR u []).length ≤ 16) : Calls Tryd.prog 8 #[.int .u64 (u : Int)] w fun e w' => e = .returned (.string (bs (nameN 99 u))) ∧ Below w.heap.size w w' := by
  have HF := Lib.hid (show Calls Tryd.prog 16 #[.int .i32 99, .int .u64 (u : Int)] w _ from named_calls w hT 99 (by decide) u hu hl)
  clear hT
  go_enter Tryd.func8, Tryd.ntmps8
  go_wp2_with fail
  refine HF.out.mono ?_
  rintro e w2 ⟨rfl, hB⟩
  have HB := Lib.hid hB
  clear hB
  go_wp2_with fail
  go_ret
  exact ⟨rfl, HB.out⟩
def freshL : Tx := [99, 48, 48, 48, 48, 48, 48, 48, 48, 48, 48, 48, 48, 48, 48, 48, 49, 46, 110, 101, 119]
instance decNm : DecidableEq Nm := fun a b => decidable_of_iff (a.k = b.k ∧ a.n = b.n ∧ a.f = b.f ∧ a.ok = b.ok) (by cases a; cases b; simp)
theorem parse_fresh : parse freshL = ⟨2, 1, true, true⟩ := by decide +kernel
theorem parse_bad : parse [115, 49, 48, 50] = none' := by decide +kernel
theorem is_calls (w : World) : Calls Tryd.prog 9 #[.string (bs freshL), .int .i64 2, .int .u64 1, .bool true] w fun e w' => e = .returned (.bool true) ∧ Below w.heap.size w w' := by
  have HP := Lib.hid (parse_calls w freshL (by decide))
  rw [parse_fresh] at HP
  go_enter Tryd.func9, Tryd.ntmps9
  go_wp2_with fail
  refine HP.out.mono ?_
  rintro e w2 ⟨rfl, hB⟩
  have HB := Lib.hid hB
  clear hB
  go_wp2_with fail
  go_ret
  exact ⟨rfl, HB.out⟩
theorem no_calls (w : World) : Calls Tryd.prog 10 #[.string (bs [115, 49, 48, 50])] w fun e w' => e = .returned (.bool true) ∧ Below w.heap.size w w' := by
  have HP := Lib.hid (parse_calls w [115, 49, 48, 50] (by decide))
  rw [parse_bad] at HP
  go_enter Tryd.func10, Tryd.ntmps10
  go_wp2_with fail
  refine HP.out.mono ?_
  rintro e w2 ⟨rfl, hB⟩
  have HB := Lib.hid hB
  clear hB
  go_wp2_with fail
  go_ret
  exact ⟨rfl, HB.out⟩
theorem seg258 : nameN 115 258 = [115, 48, 48, 48, 48, 48, 48, 48, 48, 48, 48, 48, 48, 48, 49, 48, 50] := by rw [nameN, hex258]; decide
theorem chkMax : nameN 99 18446744073709551615 = [99, 102, 102, 102, 102, 102, 102, 102, 102, 102, 102, 102, 102, 102, 102, 102, 102] := by rw [nameN, hexMax]; decide
theorem works_calls (w : World) (hT : TZ w) : Calls Tryd.prog 4 #[] w fun e w' => e = .returned (.bool true) ∧ Below w.heap.size w w' := by
  have HT := Lib.hid hT
  clear hT
  have hb1 := bs_toList [115, 48, 48, 48, 48, 48, 48, 48, 48, 48, 48, 48, 48, 48, 49, 48, 50]
  have hb2 := bs_toList [99, 102, 102, 102, 102, 102, 102, 102, 102, 102, 102, 102, 102, 102, 102, 102, 102]
  go_enter Tryd.func4, Tryd.ntmps4
  go_wp2_with fail
  refine (show Calls Tryd.prog 7 #[.int .u64 258] w _ from segment_calls w HT.out 258 (by decide) (by rw [hex258]; decide)).mono ?_
  rintro e w2 ⟨rfl, hB⟩
  rw [seg258]
  have HB := Lib.hid hB
  clear hB
  have HT2 := Lib.hid (HT.out.below HB.out)
  go_wp2_with fail
  refine (show Calls Tryd.prog 8 #[.int .u64 18446744073709551615] w2 _ from check_calls w2 HT2.out 18446744073709551615 (by decide) (by rw [hexMax]; decide)).mono ?_
  rintro e w3 ⟨rfl, hB3⟩
  rw [chkMax]
  have HB3 := Lib.hid (HB.out.trans (hB3.mono HB.out.size))
  clear hB3 HB
  go_wp2_with fail
  refine (is_calls w3).mono ?_
  rintro e w4 ⟨rfl, hB4⟩
  have HB4 := Lib.hid (HB3.out.trans (hB4.mono HB3.out.size))
  clear hB4 HB3
  go_wp2_with fail
  refine (no_calls w4).mono ?_
  rintro e w5 ⟨rfl, hB5⟩
  have HB5 := Lib.hid (HB4.out.trans (hB5.mono HB4.out.size))
  clear hB5 HB4
  go_wp2_with fail
  go_ret
  exact ⟨rfl, HB5.out⟩
theorem namesParse_calls (w : World) (hT : TZ w) (s : ByteArray) : Calls Tryd.prog 3 #[.string s] w fun e w' => e = .returned (.bool true) ∧ Below w.heap.size w w' := by
  obtain ⟨l, rfl⟩ : ∃ l, s = bs l := ⟨s.data.toList, (bs_of s).symm⟩
  have HT := Lib.hid hT
  clear hT
  have hsz := bs_size l
  go_enter Tryd.func3, Tryd.ntmps3
  by_cases hl : l.length ≤ 3000
  rotate_left
  · have d : decide ((3000 : Int) < (l.length : Int)) = true := decide_eq_true (by omega)
    go_wp2_with fail
    refine (works_calls w HT.out).mono ?_
    rintro e w2 ⟨rfl, hB⟩
    have HB := Lib.hid hB
    clear hB
    go_wp2_with fail
    go_ret
    exact ⟨rfl, HB.out⟩
  · have d : decide ((3000 : Int) < (l.length : Int)) = false := decide_eq_false (by omega)
    go_wp2_with fail
    refine (parse_calls w l (by omega)).mono ?_
    rintro e w2 ⟨rfl, hB⟩
    have HB := Lib.hid hB
    clear hB
    go_wp2_with fail
    refine (rparse_calls w2 l (by omega)).mono ?_
    rintro e w3 ⟨rfl, hB3⟩
    have HB3 := Lib.hid (HB.out.trans (hB3.mono HB.out.size))
    have HT3 := Lib.hid (HT.out.below HB3.out)
    clear hB3 HB HT
    go_wp2_with fail
    refine (works_calls w3 HT3.out).mono ?_
    rintro e w4 ⟨rfl, hB4⟩
    have HB4 := Lib.hid (HB3.out.trans (hB4.mono HB3.out.size))
    clear hB4 HB3
    go_wp2_with fail
    go_ret
    exact ⟨rfl, HB4.out⟩
end Go.Proofs.YtlfgncdneiempaaDoor.Nw
